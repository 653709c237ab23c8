/- Printed: a function's machine side. Conditions: none. -/
import Derived.Test.YtdlikjfffdpmiaaQProperx0
import Derived.Test.YtdlikjfffdpmiaaQProperx17
import Derived.Test.YtdlikjfffdpmiaaQProperx42
namespace Go.Proofs.Ytdlikjfffdpmiaa.QProper
open Go.RowKit Go.Proofs.YtdlikjfffdpmiaaW.PrintWords Go.Proofs.YtdlikjfffdpmiaaW.PrintLast Go.Proofs.YtdlikjfffdpmiaaW.PrintMore
set_option linter.unusedVariables false
set_option linter.unusedSimpArgs false

/-! ### rotaref08_named: function 50 -/
def rotaref08_named.l0 : Nat → Bool → List Bool → List Bool → Int → List Int → List (S34) → List (S58) → Option (List Bool)
 | 0, _, _, _, _, _, _, _ => none
 | k + 1, x2, x7, x8, x9, x416000, x416001, x416002 => if x9 < (x8.length : Int) then (if 0 ≤ x9 then (if x9 < (x416000.length : Int) then ((rotaref06_Decode.f k (rd x416000 x9)).bind fun bt423 => (if rdOf false x8 x9 = true then (if bt423.1 = 20 then (if 0 ≤ bt423.2.2.2.2.1 then (if bt423.2.2.2.2.1 < (x7.length : Int) then (rotaref08_named.l0 k x2 (x7.set (bt423.2.2.2.2.1 : Int).toNat true) x8 (wrap64 (x9 + 1)) x416000 x416001 x416002) else (none)) else (none)) else (if x2 = true then (if bt423.1 = 22 then (if 0 ≤ bt423.2.2.2.2.1 then (if bt423.2.2.2.2.1 < (x7.length : Int) then (rotaref08_named.l0 k x2 (x7.set (bt423.2.2.2.2.1 : Int).toNat true) x8 (wrap64 (x9 + 1)) x416000 x416001 x416002) else (none)) else (none)) else (rotaref08_named.l0 k x2 x7 x8 (wrap64 (x9 + 1)) x416000 x416001 x416002)) else (rotaref08_named.l0 k x2 x7 x8 (wrap64 (x9 + 1)) x416000 x416001 x416002))) else (rotaref08_named.l0 k x2 x7 x8 (wrap64 (x9 + 1)) x416000 x416001 x416002))) else (none)) else (none)) else (some x7)
def rotaref08_named.f (k : Nat) (l0_0 : List Int) (l0_1 : List (S34)) (l0_2 : List (S58)) (a1 : Int) (a2 : Bool) : Option (List Bool) := if 0 ≤ (l0_1.length : Int) then (if ((l0_1.length : Int) : Int).toNat ≤ 281474976710656 then ((rotaref08_reach.f k l0_0 l0_1 l0_2 a1).bind fun t419 => (rotaref08_named.l0 k a2 (List.replicate ((l0_1.length : Int) : Int).toNat false) t419 0 l0_0 l0_1 l0_2)) else (none)) else (none)
theorem rotaref08_named.mono_l : ∀ k, (∀ y0 y1 y2 y3 y4 y5 y6, LeO (rotaref08_named.l0 k y0 y1 y2 y3 y4 y5 y6) (rotaref08_named.l0 (k + 1) y0 y1 y2 y3 y4 y5 y6))
 | 0 => fun _ _ _ _ _ _ _ r h => by simp [rotaref08_named.l0] at h
 | k + 1 => by
  have ih0 := rotaref08_named.mono_l k
  ·intro y0 y1 y2 y3 y4 y5 y6
   unfold rotaref08_named.l0
   repeat' first
   | (with_reducible exact ih0 _ _ _ _ _ _ _)
   | (with_reducible exact rotaref06_Decode.mono _ _)
   | (with_reducible exact rotaref08_reach.mono _ _ _ _ _)
   | (with_reducible exact LeO.refl _)
   | (with_reducible exact LeO.none _)
   | (with_reducible refine LeO.ite ?_ ?_)
   | (with_reducible refine LeO.bind ?_ (fun _ => ?_))
   | exact ih0 _ _ _ _ _ _ _
   | exact rotaref06_Decode.mono _ _
   | exact rotaref08_reach.mono _ _ _ _ _
   | exact LeO.none _
   | refine LeO.ite ?_ ?_
   | refine LeO.bind ?_ (fun _ => ?_)
theorem rotaref08_named.mono : ∀ a0 a1 a2 a3 a4 k, LeO (rotaref08_named.f k a0 a1 a2 a3 a4) (rotaref08_named.f (k + 1) a0 a1 a2 a3 a4) := by
 intro a0 a1 a2 a3 a4 k
 have ih0 := rotaref08_named.mono_l k
 unfold rotaref08_named.f
 repeat' first
   | (with_reducible exact ih0 _ _ _ _ _ _ _)
   | (with_reducible exact rotaref06_Decode.mono _ _)
   | (with_reducible exact rotaref08_reach.mono _ _ _ _ _)
   | (with_reducible exact LeO.refl _)
   | (with_reducible exact LeO.none _)
   | (with_reducible refine LeO.ite ?_ ?_)
   | (with_reducible refine LeO.bind ?_ (fun _ => ?_))
   | exact ih0 _ _ _ _ _ _ _
   | exact rotaref06_Decode.mono _ _
   | exact rotaref08_reach.mono _ _ _ _ _
   | exact LeO.none _
   | refine LeO.ite ?_ ?_
   | refine LeO.bind ?_ (fun _ => ?_)
set_option maxHeartbeats 8000000 in
set_option maxRecDepth 100000 in
theorem rotaref08_named.calls (k : Nat) (A0_0 : Option Addr) (c0_0 : Nat) (l0_0 : List Int) (A0_1 : Option Addr) (c0_1 : Nat) (l0_1 : List (S34)) (A0_2 : Option Addr) (c0_2 : Nat) (l0_2 : List (S58)) (a1 : Int) (a2 : Bool) (r : List Bool) (w : World) (hr0_0 : Kd.C (Kd.int .u32) w A0_0 l0_0.length l0_0) (hc0_0 : l0_0.length ≤ c0_0) (hr0_1 : Kd.C k34 w A0_1 l0_1.length l0_1) (hc0_1 : l0_1.length ≤ c0_1) (hr0_2 : Kd.C k58 w A0_2 l0_2.length l0_2) (hc0_2 : l0_2.length ≤ c0_2) (h : rotaref08_named.f k l0_0 l0_1 l0_2 a1 a2 = some r) :
  Calls Try.prog 50 #[.agg #[.slice A0_0 l0_0.length c0_0, .slice A0_1 l0_1.length c0_1, .slice A0_2 l0_2.length c0_2], .int .i64 a1, .bool a2] w fun e w' => ∃ v0_ : Value, e = .returned (v0_) ∧ Kd.R Kd.bool 4 w' w.heap.size (fun _ => True) v0_ r ∧ Below w.heap.size w w' := by
 have hu26 := Try.underlying26
 have hu48 := Try.underlying48
 have HR0_0 := K1 hr0_0
 have HC0_0 := K1 hc0_0
 clear hr0_0 hc0_0
 have HR0_1 := K1 hr0_1
 have HC0_1 := K1 hc0_1
 clear hr0_1 hc0_1
 have HR0_2 := K1 hr0_2
 have HC0_2 := K1 hc0_2
 clear hr0_2 hc0_2
 have HB := K1 (Below.refl w.heap.size w)
 have H : (if 0 ≤ (l0_1.length : Int) then (if ((l0_1.length : Int) : Int).toNat ≤ 281474976710656 then ((rotaref08_reach.f k l0_0 l0_1 l0_2 a1).bind fun t419 => (rotaref08_named.l0 k a2 (List.replicate ((l0_1.length : Int) : Int).toNat false) t419 0 l0_0 l0_1 l0_2)) else (none)) else (none)) = some r := h
 clear h
 by_cases c4 : 0 ≤ (l0_1.length : Int)
 ·rw [if_pos c4] at H
  have c4b0 := eq_true c4
  have c4b1 : decide (0 ≤ (l0_1.length : Int)) = true := decide_eq_true c4
  clear c4
  by_cases c5 : ((l0_1.length : Int) : Int).toNat ≤ 281474976710656
  ·rw [if_pos c5] at H
   have c5b0 := eq_true c5
   have c5b1 : decide (((l0_1.length : Int) : Int).toNat ≤ 281474976710656) = true := decide_eq_true c5
   clear c5
   obtain ⟨y416, hy416⟩ : ∃ y_ : List Bool, y_ = (List.replicate ((l0_1.length : Int) : Int).toNat false) := ⟨_, rfl⟩
   replace H : ((rotaref08_reach.f k l0_0 l0_1 l0_2 a1).bind fun t419 => (rotaref08_named.l0 k a2 y416 t419 0 l0_0 l0_1 l0_2)) = some r := by first | (rw [hy416]; with_reducible exact H) | (have H2_ := (Option.bind_some _ _).symm.trans H; rw [hy416]; with_reducible exact H2_) | (have H2_ := (Option.bind_some _ _).symm.trans H; with_reducible exact H2_) | with_reducible exact H | (rw [hy416]; exact H) | exact H
   have Ny416 := K1 hy416
   clear hy416
   replace H := Option.bind_eq_some_iff.mp H
   obtain ⟨t419, A60, H⟩ := H
   replace H : (rotaref08_named.l0 k a2 y416 t419 0 l0_0 l0_1 l0_2) = some r := H
   have A6 := K1 A60
   clear A60
   have H' := K1 H
   clear H
   go_enter Try.func50, Try.ntmps50
   go_wp2_with (first | ((with_reducible refine gate_dst (N := 3) rfl ?_); refine bev (N := 3) (cs := #[.slice A0_0 l0_0.length c0_0, .slice A0_1 l0_1.length c0_1, .slice A0_2 l0_2.length c0_2]) (t := 26) (h := ?_); intro gb415 hg w7 hbox hb; have BK415 := K1 (hbox); have GW415 := K1 (mG : w.heap.size ≤ gb415); have GE415 := K1 (mG : w.heap.size ≤ gb415); replace HB := K1 (below_step mB hb); clear hb hbox hg; obtain ⟨hcz8_0, hcz8_1, hcz8_2, hfz8_0, hfz8_1, hfz8_2⟩ := cf3 BK415) | ((with_reducible refine gate_dst (N := 15) rfl ?_); refine Kd.R_make Kd.bool _ 4 rfl (N := 15) rfl 67 _ _ rfl (l0_1.length : Int) rfl rfl Try.underlying67 (.bool false) 1 info4 rfl (by decide) (by omega) false (ok := fun _ => True) (okp := fun _ => True) rfl (fun _ hk => hk) trivial (of_decide_eq_true (mA)) (Nat.le_trans (Nat.mul_le_mul_right _ (of_decide_eq_true (mA) : (l0_1.length : Int).toNat ≤ 281474976710656)) (by omega)) (Below.refl _ _) (Nat.le_refl _) ?_; intro v417 w9 ho10 hb hg_ hnew_; clear hg_ hnew_; (first | rw [← Ny416.out] at ho10 | (simp only [Int.reduceToNat] at ho10; rw [← Ny416.out] at ho10)); have HO418 := K1 (Kd.R_lower ho10 (below_size mB)); replace BK415 := K1 (blk_below (mU BK415.out) hb); replace HB := K1 (below_step mB hb); clear hb ho10; obtain ⟨hcz11_0, hcz11_1, hcz11_2, hfz11_0, hfz11_1, hfz11_2⟩ := cf3 BK415) | ((with_reducible refine gate_callee (f := 44) rfl ?_); refine goesL_ (some 18) rfl rfl Try.func44 (by kernel_rfl) rfl #[.agg #[.slice A0_0 l0_0.length c0_0, .slice A0_1 l0_1.length c0_1, .slice A0_2 l0_2.length c0_2], .int .i64 a1] rfl mL ?_; (with_reducible refine (rotaref08_reach.calls k _ _ l0_0 _ _ l0_1 _ _ l0_2 a1 t419 _ ?side1 ?side2 ?side3 ?side4 ?side5 ?side6 A6.out).mono ?_); (case side1 => exact mC); (case side2 => exact HC0_0.out); (case side3 => exact mC); (case side4 => exact HC0_1.out); (case side5 => exact mC); (case side6 => exact HC0_2.out); rintro e w12 ⟨v420, rfl, ho0, hb⟩; refine ⟨_, rfl, ?_⟩; have HO421 := K1 (Kd.R_lower (Kd.R_new' ho0 (Kd.R_lt (mV HO418.out))) (below_size mB)); replace HO418 := K1 (Kd.R_elder' (mV HO418.out) (Kd.R_base ho0) hb); replace BK415 := K1 (blk_below (mU BK415.out) hb); replace HB := K1 (below_step mB hb); (try clear hb); (try clear ho0)))
   go_loopg [9] k (fun kq v9 w' => ∃ (x7_1 : List Bool) (x9_1 : Int), v9 = .int .i64 x9_1 ∧ Aside0 (rotaref08_named.l0 kq a2 x7_1 t419 x9_1 l0_0 l0_1 l0_2 = some r) ∧ Aside0 (kq ≤ k) ∧ Aside0 (Kd.R Kd.bool 4 w' w.heap.size (fun k_ => some k_ ≠ (v420 : Value).ownBlock) v417 x7_1) ∧ Aside0 (Kd.R Kd.bool 4 w' w.heap.size (fun k_ => some k_ ≠ (v417 : Value).ownBlock) v420 t419) ∧ Aside0 (w'.heap[gb415]? = some (.cells #[(.slice A0_0 l0_0.length c0_0), (.slice A0_1 l0_1.length c0_1), (.slice A0_2 l0_2.length c0_2)] 26 (0, 0))) ∧ Aside0 (Below w.heap.size w w'))
   case atStart => exact ⟨(y416), (0), (mF), H', ⟨Nat.le_refl _⟩, ⟨by (with_reducible repeat (first | apply Kd.R_alloc | apply Kd.R_drewN | apply Kd.R_drew)); exact Kd.R_mono HO418.out (fun _ hk => hk.2)⟩, ⟨by (with_reducible repeat (first | apply Kd.R_alloc | apply Kd.R_drewN | apply Kd.R_drew)); exact Kd.R_mono HO421.out (fun _ hk => hk.2)⟩, ⟨mU BK415.out⟩, ⟨mB⟩⟩
   case round =>
    clear H' c4b0 c4b1 c5b0 c5b1 hcz11_0 hcz11_1 hcz11_2 hcz8_0 hcz8_1 hcz8_2 hfz11_0 hfz11_1 hfz11_2 hfz8_0 hfz8_1 hfz8_2
    obtain ⟨x7_1, x9_1, rfl, HA, HK1, HO_7, HO_8, BK415, HB⟩ := hrel
    cases gk with
    | zero => exact absurd HA.out (by simp [rotaref08_named.l0])
    | succ k1 =>
     have H := HA.out
     clear HA
     simp only [rotaref08_named.l0] at H
     by_cases c13 : x9_1 < (t419.length : Int)
     ·rw [if_pos c13] at H
      have c13b0 : decide (x9_1 < (t419.length : Int)) = true := decide_eq_true c13
      clear c13
      by_cases c14 : 0 ≤ x9_1
      ·rw [if_pos c14] at H
       have c14b0 : decide (0 ≤ x9_1) = true := decide_eq_true c14
       clear c14
       by_cases c15 : x9_1 < (l0_0.length : Int)
       ·rw [if_pos c15] at H
        have c15b0 : decide (x9_1 < (l0_0.length : Int)) = true := decide_eq_true c15
        clear c15
        replace H := Option.bind_eq_some_iff.mp H
        obtain ⟨⟨t423, t424, t425, t426, t427, t428⟩, A160, H⟩ := H
        replace H : (if rdOf false t419 x9_1 = true then (if t423 = 20 then (if 0 ≤ t427 then (if t427 < (x7_1.length : Int) then (rotaref08_named.l0 k1 a2 (x7_1.set (t427 : Int).toNat true) t419 (wrap64 (x9_1 + 1)) l0_0 l0_1 l0_2) else (none)) else (none)) else (if a2 = true then (if t423 = 22 then (if 0 ≤ t427 then (if t427 < (x7_1.length : Int) then (rotaref08_named.l0 k1 a2 (x7_1.set (t427 : Int).toNat true) t419 (wrap64 (x9_1 + 1)) l0_0 l0_1 l0_2) else (none)) else (none)) else (rotaref08_named.l0 k1 a2 x7_1 t419 (wrap64 (x9_1 + 1)) l0_0 l0_1 l0_2)) else (rotaref08_named.l0 k1 a2 x7_1 t419 (wrap64 (x9_1 + 1)) l0_0 l0_1 l0_2))) else (rotaref08_named.l0 k1 a2 x7_1 t419 (wrap64 (x9_1 + 1)) l0_0 l0_1 l0_2)) = some r := H
        have A16 := K1 A160
        clear A160
        obtain ⟨bq17, hbq17⟩ : ∃ b_ : Bool, b_ = (rdOf false t419 x9_1) := ⟨_, rfl⟩
        replace H : (if bq17 = true then (if t423 = 20 then (if 0 ≤ t427 then (if t427 < (x7_1.length : Int) then (rotaref08_named.l0 k1 a2 (x7_1.set (t427 : Int).toNat true) t419 (wrap64 (x9_1 + 1)) l0_0 l0_1 l0_2) else (none)) else (none)) else (if a2 = true then (if t423 = 22 then (if 0 ≤ t427 then (if t427 < (x7_1.length : Int) then (rotaref08_named.l0 k1 a2 (x7_1.set (t427 : Int).toNat true) t419 (wrap64 (x9_1 + 1)) l0_0 l0_1 l0_2) else (none)) else (none)) else (rotaref08_named.l0 k1 a2 x7_1 t419 (wrap64 (x9_1 + 1)) l0_0 l0_1 l0_2)) else (rotaref08_named.l0 k1 a2 x7_1 t419 (wrap64 (x9_1 + 1)) l0_0 l0_1 l0_2))) else (rotaref08_named.l0 k1 a2 x7_1 t419 (wrap64 (x9_1 + 1)) l0_0 l0_1 l0_2)) = some r := by rw [← hbq17] at H; exact H
        have Nbq17 := K1 hbq17
        clear hbq17
        by_cases c18 : bq17 = true
        ·subst c18
         have H1 : (if t423 = 20 then (if 0 ≤ t427 then (if t427 < (x7_1.length : Int) then (rotaref08_named.l0 k1 a2 (x7_1.set (t427 : Int).toNat true) t419 (wrap64 (x9_1 + 1)) l0_0 l0_1 l0_2) else (none)) else (none)) else (if a2 = true then (if t423 = 22 then (if 0 ≤ t427 then (if t427 < (x7_1.length : Int) then (rotaref08_named.l0 k1 a2 (x7_1.set (t427 : Int).toNat true) t419 (wrap64 (x9_1 + 1)) l0_0 l0_1 l0_2) else (none)) else (none)) else (rotaref08_named.l0 k1 a2 x7_1 t419 (wrap64 (x9_1 + 1)) l0_0 l0_1 l0_2)) else (rotaref08_named.l0 k1 a2 x7_1 t419 (wrap64 (x9_1 + 1)) l0_0 l0_1 l0_2))) = some r := by rw [if_pos rfl] at H; exact H
         clear H
         have H := H1
         clear H1
         by_cases c19 : t423 = 20
         ·rw [if_pos c19] at H
          have c19b0 : (t423 == 20) = true := beq_iff_eq.mpr c19
          have c19b1 : (t423 != 20) = false := bne_eq_false_iff_eq.mpr c19
          clear c19
          by_cases c20 : 0 ≤ t427
          ·rw [if_pos c20] at H
           have c20b0 : decide (0 ≤ t427) = true := decide_eq_true c20
           clear c20
           by_cases c21 : t427 < (x7_1.length : Int)
           ·rw [if_pos c21] at H
            have c21b0 : decide (t427 < (x7_1.length : Int)) = true := decide_eq_true c21
            clear c21
            obtain ⟨y431, hy431⟩ : ∃ y_ : List Bool, y_ = (x7_1.set (t427 : Int).toNat true) := ⟨_, rfl⟩
            replace H : (rotaref08_named.l0 k1 a2 y431 t419 (wrap64 (x9_1 + 1)) l0_0 l0_1 l0_2) = some r := by first | (rw [hy431]; with_reducible exact H) | (have H2_ := (Option.bind_some _ _).symm.trans H; rw [hy431]; with_reducible exact H2_) | (have H2_ := (Option.bind_some _ _).symm.trans H; with_reducible exact H2_) | with_reducible exact H | (rw [hy431]; exact H) | exact H
            have Ny431 := K1 hy431
            clear hy431
            have H' := K1 H
            clear H
            obtain ⟨Ao23, co23, eo23⟩ := Kd.R_slice HO_8.out
            subst eo23
            obtain ⟨hcz24_0, hcz24_1, hcz24_2, hfz24_0, hfz24_1, hfz24_2⟩ := cf3 BK415
            have p422 : 0 ≤ (x9_1 : Int) := of_decide_eq_true (mA)
            have q422 : x9_1 < (l0_0.length : Int) := of_decide_eq_true (mA)
            obtain ⟨ad422, e422, hx422_0⟩ := Kd.at_int HR0_0.out x9_1 p422 q422
            cases e422
            replace hx422_0 := (HB.out.cell (World.block_lt_of_cell? w _ hx422_0)).trans hx422_0
            replace p422 := eq_true p422
            replace q422 := eq_true q422
            go_wp2_with (first | ((with_reducible refine gate_callee (f := 27) rfl ?_); refine goesL_ (some 31) rfl rfl Try.func27 (by kernel_rfl) rfl #[.int .u32 (rd l0_0 x9_1)] rfl mL ?_; (with_reducible refine (rotaref06_Decode.calls k1 (rd l0_0 x9_1) t423 t424 t425 t426 t427 t428 _ A16.out).mono ?_); rintro e w25 ⟨rfl, hb⟩; refine ⟨_, rfl, ?_⟩; replace HO_7 := K1 (Kd.R_below (mV HO_7.out) hb); replace HO_8 := K1 (Kd.R_below (mV HO_8.out) hb); replace BK415 := K1 (blk_below (mU BK415.out) hb); replace HB := K1 (below_step mB hb); (try clear hb)) | ((with_reducible refine gate_dst (N := 10) rfl ?_); refine bev (N := 10) (cs := #[.int .i64 0, .int .i64 0, .int .i64 0, .int .i64 0, .int .i64 0]) (t := 48) (h := ?_); intro gb429 hg w26 hbox hb; have BK429 := K1 (hbox); have GW429 := K1 (mG : w.heap.size ≤ gb429); have GE429 := K1 (mG : w.heap.size ≤ gb429); have NB415_429 := K1 (nlt hg (mU BK415.out)); have NB429_415 := K1 (ngt hg (mU BK415.out)); replace HO_7 := K1 (Kd.R_below (mV HO_7.out) hb); replace HO_8 := K1 (Kd.R_below (mV HO_8.out) hb); replace BK415 := K1 (blk_below (mU BK415.out) hb); replace HB := K1 (below_step mB hb); clear hb hbox hg; have hnb27 := NB429_415.out; have hnc27 := NB415_429.out; obtain ⟨hcz28_0, hcz28_1, hcz28_2, hcz28_3, hcz28_4, hfz28_0, hfz28_1, hfz28_2, hfz28_3, hfz28_4⟩ := cf5 BK429) | ((with_reducible refine gate_store (t := 48) (p := 10) rfl ?_); refine store_event (t := 48) (p := 10) (v := ?vo_w29) (w1 := (((((w26.setCell ⟨gb429, 0, none⟩ (.int .i64 t423)).setCell ⟨gb429, 1, none⟩ (.int .i64 t424)).setCell ⟨gb429, 2, none⟩ (.int .i64 t425)).setCell ⟨gb429, 3, none⟩ (.int .i64 t426)).setCell ⟨gb429, 4, none⟩ (.int .i64 t427))) ?hg ?ho ?hn ?hr ?_; (case ho => rfl); (case hg => rfl); (case hn => rfl); (case hr => first | (go_simp; done) | (go_simp; rfl)); intro w29 hw; replace HO_7 : Aside0 (Kd.R Kd.bool 4 w29 w.heap.size (fun k_ => some k_ ≠ (.slice Ao23 t419.length co23 : Value).ownBlock) v417 x7_1) := ⟨(by rw [hw]; exact (by (with_reducible repeat (first | apply Kd.R_alloc | apply Kd.R_drewN | apply Kd.R_drew)); exact Kd.R_mono (Kd.R_far (p := ⟨gb429, 4, none⟩) (Kd.R_far (p := ⟨gb429, 3, none⟩) (Kd.R_far (p := ⟨gb429, 2, none⟩) (Kd.R_far (p := ⟨gb429, 1, none⟩) (Kd.R_far (p := ⟨gb429, 0, none⟩) (Kd.R_types HO_7.out BK429.out (by decide)) (fun _ hk => hk.2) (.int .i64 t423)) (fun _ hk => hk.2) (.int .i64 t424)) (fun _ hk => hk.2) (.int .i64 t425)) (fun _ hk => hk.2) (.int .i64 t426)) (fun _ hk => hk.2) (.int .i64 t427)) (fun _ hk => hk.1)))⟩; replace HO_8 : Aside0 (Kd.R Kd.bool 4 w29 w.heap.size (fun k_ => some k_ ≠ (v417 : Value).ownBlock) (.slice Ao23 t419.length co23) t419) := ⟨(by rw [hw]; exact (by (with_reducible repeat (first | apply Kd.R_alloc | apply Kd.R_drewN | apply Kd.R_drew)); exact Kd.R_mono (Kd.R_far (p := ⟨gb429, 4, none⟩) (Kd.R_far (p := ⟨gb429, 3, none⟩) (Kd.R_far (p := ⟨gb429, 2, none⟩) (Kd.R_far (p := ⟨gb429, 1, none⟩) (Kd.R_far (p := ⟨gb429, 0, none⟩) (Kd.R_types HO_8.out BK429.out (by decide)) (fun _ hk => hk.2) (.int .i64 t423)) (fun _ hk => hk.2) (.int .i64 t424)) (fun _ hk => hk.2) (.int .i64 t425)) (fun _ hk => hk.2) (.int .i64 t426)) (fun _ hk => hk.2) (.int .i64 t427)) (fun _ hk => hk.1)))⟩; replace BK415 : Aside0 (w29.heap[gb415]? = some (.cells #[.slice (some ad422) l0_0.length c0_0, .slice A0_1 l0_1.length c0_1, .slice A0_2 l0_2.length c0_2] 26 (0, 0))) := ⟨(by rw [hw]; exact (by refine mU ?_; refine blk_far ?_ NB415_429.out _; refine mU ?_; refine blk_far ?_ NB415_429.out _; refine mU ?_; refine blk_far ?_ NB415_429.out _; refine mU ?_; refine blk_far ?_ NB415_429.out _; refine mU ?_; refine blk_far ?_ NB415_429.out _; refine mU ?_; exact BK415.out))⟩; replace BK429 : Aside0 (w29.heap[gb429]? = some (.cells #[.int .i64 t423, .int .i64 t424, .int .i64 t425, .int .i64 t426, .int .i64 t427] 48 (0, 0))) := ⟨(by rw [hw]; exact (by refine mU ?_; refine blk_put (cs := #[.int .i64 t423, .int .i64 t424, .int .i64 t425, .int .i64 t426, .int .i64 0]) ?_ 4 _ rfl; refine mU ?_; refine blk_put (cs := #[.int .i64 t423, .int .i64 t424, .int .i64 t425, .int .i64 0, .int .i64 0]) ?_ 3 _ rfl; refine mU ?_; refine blk_put (cs := #[.int .i64 t423, .int .i64 t424, .int .i64 0, .int .i64 0, .int .i64 0]) ?_ 2 _ rfl; refine mU ?_; refine blk_put (cs := #[.int .i64 t423, .int .i64 0, .int .i64 0, .int .i64 0, .int .i64 0]) ?_ 1 _ rfl; refine mU ?_; refine blk_put (cs := #[.int .i64 0, .int .i64 0, .int .i64 0, .int .i64 0, .int .i64 0]) ?_ 0 _ rfl; refine mU ?_; exact BK429.out))⟩; replace HB : Aside0 (Below w.heap.size w w29) := ⟨(by rw [hw]; exact mB)⟩; clear hw; have p430 : 0 ≤ (x9_1 : Int) := of_decide_eq_true (mA); have q430 : x9_1 < (t419.length : Int) := of_decide_eq_true (mA); obtain ⟨ad430, e430, hx430_0⟩ := Kd.at_bool (Kd.R_reads' HO_8.out).2.2 x9_1 p430 q430; (try rw [← Nbq17.out] at hx430_0); cases e430; replace p430 := eq_true p430; replace q430 := eq_true q430; obtain ⟨hcz30_0, hcz30_1, hcz30_2, hcz30_3, hcz30_4, hfz30_0, hfz30_1, hfz30_2, hfz30_3, hfz30_4⟩ := cf5 BK429; have p22 : 0 ≤ (t427 : Int) := of_decide_eq_true (mA); have q22 : (t427 : Int) < ((x7_1.length : Int) : Int) := of_decide_eq_true (mA); obtain ⟨go22, co22, eo22, gb22, gl22, cl22, HG22⟩ := Kd.R_form HO_7.out (by omega); (first | cases eo22 | (injection eo22 with ea_ en_ ec_; (first | subst ea_ | (injection ea_ with ea_; subst ea_)); subst ec_; clear en_)); have GB22 := K1 gb22; have GG22 := K1 HG22; clear gb22 gl22 HG22; obtain ⟨hx22_0, hf22_0⟩ := Kd.R_celln false HO_7.out (t427 : Int) p22 q22; replace p22 := eq_true p22; replace q22 := eq_true q22; obtain ⟨hy31_, hz31_⟩ := Kd.R_celln false HO_7.out (t427 : Int) (of_decide_eq_true (mA)) (of_decide_eq_true (mA)); have HP31 := Kd.R_putg HO_7.out (t427 : Int) true) | ((with_reducible refine gate_store (t := 4) (p := 54) rfl ?_); refine store_event (t := 4) (p := 54) (v := ?vo_w32) (w1 := (w29.setCell ⟨go22, (t427 : Int).toNat, none⟩ (.bool true))) ?hg ?ho ?hn ?hr ?_; (case ho => rfl); (case hg => rfl); (case hn => rfl); (case hr => first | (go_simp; done) | (go_simp; rfl)); intro w32 hw; have hg : w29.grownBy w32 (some go22) := (by rw [hw]; exact HP31.2); have hp_ : Kd.R Kd.bool 4 w32 w.heap.size (fun k_ => some k_ ≠ (.slice (some ad430) t419.length co23 : Value).ownBlock) (.slice (some ⟨go22, 0, none⟩) x7_1.length co22) y431 := (by rw [hw, Ny431.out]; exact HP31.1); clear HP31; have n0_ := K1 (hp_); have n1_ := K1 (Kd.R_after (v := (.slice (some ⟨go22, 0, none⟩) x7_1.length co22)) (v1 := (.slice (some ⟨go22, 0, none⟩) x7_1.length co22)) (ok := (fun _ => True)) (by (with_reducible repeat (first | apply Kd.R_alloc | apply Kd.R_drewN | apply Kd.R_drew)); exact Kd.R_mono HO_8.out (fun _ hk => ⟨trivial, hk⟩)) hg (.inl rfl)); have n2_ := K1 (blk_grown (mU BK415.out) hg (Kd.R_ne HO_7.out BK415.out (by decide))); have n3_ := K1 (blk_grown (mU BK429.out) hg (Kd.R_ne HO_7.out BK429.out (by decide))); have n4_ := K1 ((by rw [hw]; exact below_set (HB.out) GB22.out : Below w.heap.size w w32)); clear HO_7; clear HO_8; clear BK415; clear BK429; clear HB; have HO_7 := n0_; have HO_8 := n1_; have BK415 := n2_; have BK429 := n3_; have HB := n4_; clear n0_ n1_ n2_ n3_ n4_; clear hg hw hp_))
            go_roundg k1
            case measure => have := HK1.out; omega
            case rel => exact ⟨(y431), (wrap64 (x9_1 + 1)), (mF), H', ⟨by have := HK1.out; omega⟩, ⟨mV HO_7.out⟩, ⟨by (with_reducible repeat (first | apply Kd.R_alloc | apply Kd.R_drewN | apply Kd.R_drew)); exact Kd.R_mono HO_8.out (fun _ hk => hk.2)⟩, ⟨mU BK415.out⟩, ⟨mB⟩⟩
           ·rw [if_neg c21] at H
            exact absurd H (by simp)
          ·rw [if_neg c20] at H
           exact absurd H (by simp)
         ·rw [if_neg c19] at H
          have c19b0 : (t423 == 20) = false := beq_eq_false_iff_ne.mpr c19
          have c19b1 : (t423 != 20) = true := bne_iff_ne.mpr c19
          by_cases c33 : a2 = true
          ·subst c33
           have H1 : (if t423 = 22 then (if 0 ≤ t427 then (if t427 < (x7_1.length : Int) then (rotaref08_named.l0 k1 true (x7_1.set (t427 : Int).toNat true) t419 (wrap64 (x9_1 + 1)) l0_0 l0_1 l0_2) else (none)) else (none)) else (rotaref08_named.l0 k1 true x7_1 t419 (wrap64 (x9_1 + 1)) l0_0 l0_1 l0_2)) = some r := by rw [if_pos rfl] at H; exact H
           clear H
           have H := H1
           clear H1
           by_cases c34 : t423 = 22
           ·rw [if_pos c34] at H
            have c34b0 : (t423 == 22) = true := beq_iff_eq.mpr c34
            have c34b1 : (t423 != 22) = false := bne_eq_false_iff_eq.mpr c34
            clear c34
            by_cases c35 : 0 ≤ t427
            ·rw [if_pos c35] at H
             have c35b0 : decide (0 ≤ t427) = true := decide_eq_true c35
             clear c35
             by_cases c36 : t427 < (x7_1.length : Int)
             ·rw [if_pos c36] at H
              have c36b0 : decide (t427 < (x7_1.length : Int)) = true := decide_eq_true c36
              clear c36
              obtain ⟨y432, hy432⟩ : ∃ y_ : List Bool, y_ = (x7_1.set (t427 : Int).toNat true) := ⟨_, rfl⟩
              replace H : (rotaref08_named.l0 k1 true y432 t419 (wrap64 (x9_1 + 1)) l0_0 l0_1 l0_2) = some r := by first | (rw [hy432]; with_reducible exact H) | (have H2_ := (Option.bind_some _ _).symm.trans H; rw [hy432]; with_reducible exact H2_) | (have H2_ := (Option.bind_some _ _).symm.trans H; with_reducible exact H2_) | with_reducible exact H | (rw [hy432]; exact H) | exact H
              have Ny432 := K1 hy432
              clear hy432
              have H' := K1 H
              clear H
              obtain ⟨Ao38, co38, eo38⟩ := Kd.R_slice HO_8.out
              subst eo38
              obtain ⟨hcz39_0, hcz39_1, hcz39_2, hfz39_0, hfz39_1, hfz39_2⟩ := cf3 BK415
              have p422 : 0 ≤ (x9_1 : Int) := of_decide_eq_true (mA)
              have q422 : x9_1 < (l0_0.length : Int) := of_decide_eq_true (mA)
              obtain ⟨ad422, e422, hx422_0⟩ := Kd.at_int HR0_0.out x9_1 p422 q422
              cases e422
              replace hx422_0 := (HB.out.cell (World.block_lt_of_cell? w _ hx422_0)).trans hx422_0
              replace p422 := eq_true p422
              replace q422 := eq_true q422
              go_wp2_with (first | ((with_reducible refine gate_callee (f := 27) rfl ?_); refine goesL_ (some 31) rfl rfl Try.func27 (by kernel_rfl) rfl #[.int .u32 (rd l0_0 x9_1)] rfl mL ?_; (with_reducible refine (rotaref06_Decode.calls k1 (rd l0_0 x9_1) t423 t424 t425 t426 t427 t428 _ A16.out).mono ?_); rintro e w40 ⟨rfl, hb⟩; refine ⟨_, rfl, ?_⟩; replace HO_7 := K1 (Kd.R_below (mV HO_7.out) hb); replace HO_8 := K1 (Kd.R_below (mV HO_8.out) hb); replace BK415 := K1 (blk_below (mU BK415.out) hb); replace HB := K1 (below_step mB hb); (try clear hb)) | ((with_reducible refine gate_dst (N := 10) rfl ?_); refine bev (N := 10) (cs := #[.int .i64 0, .int .i64 0, .int .i64 0, .int .i64 0, .int .i64 0]) (t := 48) (h := ?_); intro gb429 hg w41 hbox hb; have BK429 := K1 (hbox); have GW429 := K1 (mG : w.heap.size ≤ gb429); have GE429 := K1 (mG : w.heap.size ≤ gb429); have NB415_429 := K1 (nlt hg (mU BK415.out)); have NB429_415 := K1 (ngt hg (mU BK415.out)); replace HO_7 := K1 (Kd.R_below (mV HO_7.out) hb); replace HO_8 := K1 (Kd.R_below (mV HO_8.out) hb); replace BK415 := K1 (blk_below (mU BK415.out) hb); replace HB := K1 (below_step mB hb); clear hb hbox hg; have hnb42 := NB429_415.out; have hnc42 := NB415_429.out; obtain ⟨hcz43_0, hcz43_1, hcz43_2, hcz43_3, hcz43_4, hfz43_0, hfz43_1, hfz43_2, hfz43_3, hfz43_4⟩ := cf5 BK429) | ((with_reducible refine gate_store (t := 48) (p := 10) rfl ?_); refine store_event (t := 48) (p := 10) (v := ?vo_w44) (w1 := (((((w41.setCell ⟨gb429, 0, none⟩ (.int .i64 t423)).setCell ⟨gb429, 1, none⟩ (.int .i64 t424)).setCell ⟨gb429, 2, none⟩ (.int .i64 t425)).setCell ⟨gb429, 3, none⟩ (.int .i64 t426)).setCell ⟨gb429, 4, none⟩ (.int .i64 t427))) ?hg ?ho ?hn ?hr ?_; (case ho => rfl); (case hg => rfl); (case hn => rfl); (case hr => first | (go_simp; done) | (go_simp; rfl)); intro w44 hw; replace HO_7 : Aside0 (Kd.R Kd.bool 4 w44 w.heap.size (fun k_ => some k_ ≠ (.slice Ao38 t419.length co38 : Value).ownBlock) v417 x7_1) := ⟨(by rw [hw]; exact (by (with_reducible repeat (first | apply Kd.R_alloc | apply Kd.R_drewN | apply Kd.R_drew)); exact Kd.R_mono (Kd.R_far (p := ⟨gb429, 4, none⟩) (Kd.R_far (p := ⟨gb429, 3, none⟩) (Kd.R_far (p := ⟨gb429, 2, none⟩) (Kd.R_far (p := ⟨gb429, 1, none⟩) (Kd.R_far (p := ⟨gb429, 0, none⟩) (Kd.R_types HO_7.out BK429.out (by decide)) (fun _ hk => hk.2) (.int .i64 t423)) (fun _ hk => hk.2) (.int .i64 t424)) (fun _ hk => hk.2) (.int .i64 t425)) (fun _ hk => hk.2) (.int .i64 t426)) (fun _ hk => hk.2) (.int .i64 t427)) (fun _ hk => hk.1)))⟩; replace HO_8 : Aside0 (Kd.R Kd.bool 4 w44 w.heap.size (fun k_ => some k_ ≠ (v417 : Value).ownBlock) (.slice Ao38 t419.length co38) t419) := ⟨(by rw [hw]; exact (by (with_reducible repeat (first | apply Kd.R_alloc | apply Kd.R_drewN | apply Kd.R_drew)); exact Kd.R_mono (Kd.R_far (p := ⟨gb429, 4, none⟩) (Kd.R_far (p := ⟨gb429, 3, none⟩) (Kd.R_far (p := ⟨gb429, 2, none⟩) (Kd.R_far (p := ⟨gb429, 1, none⟩) (Kd.R_far (p := ⟨gb429, 0, none⟩) (Kd.R_types HO_8.out BK429.out (by decide)) (fun _ hk => hk.2) (.int .i64 t423)) (fun _ hk => hk.2) (.int .i64 t424)) (fun _ hk => hk.2) (.int .i64 t425)) (fun _ hk => hk.2) (.int .i64 t426)) (fun _ hk => hk.2) (.int .i64 t427)) (fun _ hk => hk.1)))⟩; replace BK415 : Aside0 (w44.heap[gb415]? = some (.cells #[.slice (some ad422) l0_0.length c0_0, .slice A0_1 l0_1.length c0_1, .slice A0_2 l0_2.length c0_2] 26 (0, 0))) := ⟨(by rw [hw]; exact (by refine mU ?_; refine blk_far ?_ NB415_429.out _; refine mU ?_; refine blk_far ?_ NB415_429.out _; refine mU ?_; refine blk_far ?_ NB415_429.out _; refine mU ?_; refine blk_far ?_ NB415_429.out _; refine mU ?_; refine blk_far ?_ NB415_429.out _; refine mU ?_; exact BK415.out))⟩; replace BK429 : Aside0 (w44.heap[gb429]? = some (.cells #[.int .i64 t423, .int .i64 t424, .int .i64 t425, .int .i64 t426, .int .i64 t427] 48 (0, 0))) := ⟨(by rw [hw]; exact (by refine mU ?_; refine blk_put (cs := #[.int .i64 t423, .int .i64 t424, .int .i64 t425, .int .i64 t426, .int .i64 0]) ?_ 4 _ rfl; refine mU ?_; refine blk_put (cs := #[.int .i64 t423, .int .i64 t424, .int .i64 t425, .int .i64 0, .int .i64 0]) ?_ 3 _ rfl; refine mU ?_; refine blk_put (cs := #[.int .i64 t423, .int .i64 t424, .int .i64 0, .int .i64 0, .int .i64 0]) ?_ 2 _ rfl; refine mU ?_; refine blk_put (cs := #[.int .i64 t423, .int .i64 0, .int .i64 0, .int .i64 0, .int .i64 0]) ?_ 1 _ rfl; refine mU ?_; refine blk_put (cs := #[.int .i64 0, .int .i64 0, .int .i64 0, .int .i64 0, .int .i64 0]) ?_ 0 _ rfl; refine mU ?_; exact BK429.out))⟩; replace HB : Aside0 (Below w.heap.size w w44) := ⟨(by rw [hw]; exact mB)⟩; clear hw; have p430 : 0 ≤ (x9_1 : Int) := of_decide_eq_true (mA); have q430 : x9_1 < (t419.length : Int) := of_decide_eq_true (mA); obtain ⟨ad430, e430, hx430_0⟩ := Kd.at_bool (Kd.R_reads' HO_8.out).2.2 x9_1 p430 q430; (try rw [← Nbq17.out] at hx430_0); cases e430; replace p430 := eq_true p430; replace q430 := eq_true q430; obtain ⟨hcz45_0, hcz45_1, hcz45_2, hcz45_3, hcz45_4, hfz45_0, hfz45_1, hfz45_2, hfz45_3, hfz45_4⟩ := cf5 BK429; have p37 : 0 ≤ (t427 : Int) := of_decide_eq_true (mA); have q37 : (t427 : Int) < ((x7_1.length : Int) : Int) := of_decide_eq_true (mA); obtain ⟨go37, co37, eo37, gb37, gl37, cl37, HG37⟩ := Kd.R_form HO_7.out (by omega); (first | cases eo37 | (injection eo37 with ea_ en_ ec_; (first | subst ea_ | (injection ea_ with ea_; subst ea_)); subst ec_; clear en_)); have GB37 := K1 gb37; have GG37 := K1 HG37; clear gb37 gl37 HG37; obtain ⟨hx37_0, hf37_0⟩ := Kd.R_celln false HO_7.out (t427 : Int) p37 q37; replace p37 := eq_true p37; replace q37 := eq_true q37; obtain ⟨hy46_, hz46_⟩ := Kd.R_celln false HO_7.out (t427 : Int) (of_decide_eq_true (mA)) (of_decide_eq_true (mA)); have HP46 := Kd.R_putg HO_7.out (t427 : Int) true) | ((with_reducible refine gate_store (t := 4) (p := 54) rfl ?_); refine store_event (t := 4) (p := 54) (v := ?vo_w47) (w1 := (w44.setCell ⟨go37, (t427 : Int).toNat, none⟩ (.bool true))) ?hg ?ho ?hn ?hr ?_; (case ho => rfl); (case hg => rfl); (case hn => rfl); (case hr => first | (go_simp; done) | (go_simp; rfl)); intro w47 hw; have hg : w44.grownBy w47 (some go37) := (by rw [hw]; exact HP46.2); have hp_ : Kd.R Kd.bool 4 w47 w.heap.size (fun k_ => some k_ ≠ (.slice (some ad430) t419.length co38 : Value).ownBlock) (.slice (some ⟨go37, 0, none⟩) x7_1.length co37) y432 := (by rw [hw, Ny432.out]; exact HP46.1); clear HP46; have n0_ := K1 (hp_); have n1_ := K1 (Kd.R_after (v := (.slice (some ⟨go37, 0, none⟩) x7_1.length co37)) (v1 := (.slice (some ⟨go37, 0, none⟩) x7_1.length co37)) (ok := (fun _ => True)) (by (with_reducible repeat (first | apply Kd.R_alloc | apply Kd.R_drewN | apply Kd.R_drew)); exact Kd.R_mono HO_8.out (fun _ hk => ⟨trivial, hk⟩)) hg (.inl rfl)); have n2_ := K1 (blk_grown (mU BK415.out) hg (Kd.R_ne HO_7.out BK415.out (by decide))); have n3_ := K1 (blk_grown (mU BK429.out) hg (Kd.R_ne HO_7.out BK429.out (by decide))); have n4_ := K1 ((by rw [hw]; exact below_set (HB.out) GB37.out : Below w.heap.size w w47)); clear HO_7; clear HO_8; clear BK415; clear BK429; clear HB; have HO_7 := n0_; have HO_8 := n1_; have BK415 := n2_; have BK429 := n3_; have HB := n4_; clear n0_ n1_ n2_ n3_ n4_; clear hg hw hp_))
              go_roundg k1
              case measure => have := HK1.out; omega
              case rel => exact ⟨(y432), (wrap64 (x9_1 + 1)), (mF), H', ⟨by have := HK1.out; omega⟩, ⟨mV HO_7.out⟩, ⟨by (with_reducible repeat (first | apply Kd.R_alloc | apply Kd.R_drewN | apply Kd.R_drew)); exact Kd.R_mono HO_8.out (fun _ hk => hk.2)⟩, ⟨mU BK415.out⟩, ⟨mB⟩⟩
             ·rw [if_neg c36] at H
              exact absurd H (by simp)
            ·rw [if_neg c35] at H
             exact absurd H (by simp)
           ·rw [if_neg c34] at H
            have c34b0 : (t423 == 22) = false := beq_eq_false_iff_ne.mpr c34
            have c34b1 : (t423 != 22) = true := bne_iff_ne.mpr c34
            have H' := K1 H
            clear H
            obtain ⟨Ao48, co48, eo48⟩ := Kd.R_slice HO_8.out
            subst eo48
            obtain ⟨hcz49_0, hcz49_1, hcz49_2, hfz49_0, hfz49_1, hfz49_2⟩ := cf3 BK415
            have p422 : 0 ≤ (x9_1 : Int) := of_decide_eq_true (mA)
            have q422 : x9_1 < (l0_0.length : Int) := of_decide_eq_true (mA)
            obtain ⟨ad422, e422, hx422_0⟩ := Kd.at_int HR0_0.out x9_1 p422 q422
            cases e422
            replace hx422_0 := (HB.out.cell (World.block_lt_of_cell? w _ hx422_0)).trans hx422_0
            replace p422 := eq_true p422
            replace q422 := eq_true q422
            go_wp2_with (first | ((with_reducible refine gate_callee (f := 27) rfl ?_); refine goesL_ (some 31) rfl rfl Try.func27 (by kernel_rfl) rfl #[.int .u32 (rd l0_0 x9_1)] rfl mL ?_; (with_reducible refine (rotaref06_Decode.calls k1 (rd l0_0 x9_1) t423 t424 t425 t426 t427 t428 _ A16.out).mono ?_); rintro e w50 ⟨rfl, hb⟩; refine ⟨_, rfl, ?_⟩; replace HO_7 := K1 (Kd.R_below (mV HO_7.out) hb); replace HO_8 := K1 (Kd.R_below (mV HO_8.out) hb); replace BK415 := K1 (blk_below (mU BK415.out) hb); replace HB := K1 (below_step mB hb); (try clear hb)) | ((with_reducible refine gate_dst (N := 10) rfl ?_); refine bev (N := 10) (cs := #[.int .i64 0, .int .i64 0, .int .i64 0, .int .i64 0, .int .i64 0]) (t := 48) (h := ?_); intro gb429 hg w51 hbox hb; have BK429 := K1 (hbox); have GW429 := K1 (mG : w.heap.size ≤ gb429); have GE429 := K1 (mG : w.heap.size ≤ gb429); have NB415_429 := K1 (nlt hg (mU BK415.out)); have NB429_415 := K1 (ngt hg (mU BK415.out)); replace HO_7 := K1 (Kd.R_below (mV HO_7.out) hb); replace HO_8 := K1 (Kd.R_below (mV HO_8.out) hb); replace BK415 := K1 (blk_below (mU BK415.out) hb); replace HB := K1 (below_step mB hb); clear hb hbox hg; have hnb52 := NB429_415.out; have hnc52 := NB415_429.out; obtain ⟨hcz53_0, hcz53_1, hcz53_2, hcz53_3, hcz53_4, hfz53_0, hfz53_1, hfz53_2, hfz53_3, hfz53_4⟩ := cf5 BK429; have p430 : 0 ≤ (x9_1 : Int) := of_decide_eq_true (mA); have q430 : x9_1 < (t419.length : Int) := of_decide_eq_true (mA); obtain ⟨ad430, e430, hx430_0⟩ := Kd.at_bool (Kd.R_reads' HO_8.out).2.2 x9_1 p430 q430; (try rw [← Nbq17.out] at hx430_0); cases e430; have hn430_0 : ad430.block ≠ gb429 := Kd.own_blk (Kd.R_ne HO_8.out BK429.out (by decide)); have hn430_1 : ad430.block ≠ gb429 := Kd.own_blk (Kd.R_ne HO_8.out BK429.out (by decide)); have hn430_2 : ad430.block ≠ gb429 := Kd.own_blk (Kd.R_ne HO_8.out BK429.out (by decide)); have hn430_3 : ad430.block ≠ gb429 := Kd.own_blk (Kd.R_ne HO_8.out BK429.out (by decide)); have hn430_4 : ad430.block ≠ gb429 := Kd.own_blk (Kd.R_ne HO_8.out BK429.out (by decide)); replace hx430_0 := (cell_far (p := ⟨gb429, 0, none⟩) (by first | (rw [add_block]; exact hn430_0) | (show (Addr.add _ _).block ≠ _; rw [add_block]; exact hn430_0) | exact hn430_0) (.int .i64 t423)).trans hx430_0; replace hx430_0 := (cell_far (p := ⟨gb429, 1, none⟩) (by first | (rw [add_block]; exact hn430_1) | (show (Addr.add _ _).block ≠ _; rw [add_block]; exact hn430_1) | exact hn430_1) (.int .i64 t424)).trans hx430_0; replace hx430_0 := (cell_far (p := ⟨gb429, 2, none⟩) (by first | (rw [add_block]; exact hn430_2) | (show (Addr.add _ _).block ≠ _; rw [add_block]; exact hn430_2) | exact hn430_2) (.int .i64 t425)).trans hx430_0; replace hx430_0 := (cell_far (p := ⟨gb429, 3, none⟩) (by first | (rw [add_block]; exact hn430_3) | (show (Addr.add _ _).block ≠ _; rw [add_block]; exact hn430_3) | exact hn430_3) (.int .i64 t426)).trans hx430_0; replace hx430_0 := (cell_far (p := ⟨gb429, 4, none⟩) (by first | (rw [add_block]; exact hn430_4) | (show (Addr.add _ _).block ≠ _; rw [add_block]; exact hn430_4) | exact hn430_4) (.int .i64 t427)).trans hx430_0; clear hn430_0; clear hn430_1; clear hn430_2; clear hn430_3; clear hn430_4; replace p430 := eq_true p430; replace q430 := eq_true q430))
            go_roundg k1
            case measure => have := HK1.out; omega
            case rel => exact ⟨(x7_1), (wrap64 (x9_1 + 1)), (mF), H', ⟨by have := HK1.out; omega⟩, ⟨by (with_reducible repeat (first | apply Kd.R_alloc | apply Kd.R_drewN | apply Kd.R_drew)); exact Kd.R_mono (Kd.R_far (p := ⟨gb429, 4, none⟩) (Kd.R_far (p := ⟨gb429, 3, none⟩) (Kd.R_far (p := ⟨gb429, 2, none⟩) (Kd.R_far (p := ⟨gb429, 1, none⟩) (Kd.R_far (p := ⟨gb429, 0, none⟩) (Kd.R_types HO_7.out BK429.out (by decide)) (fun _ hk => hk.2) (.int .i64 t423)) (fun _ hk => hk.2) (.int .i64 t424)) (fun _ hk => hk.2) (.int .i64 t425)) (fun _ hk => hk.2) (.int .i64 t426)) (fun _ hk => hk.2) (.int .i64 t427)) (fun _ hk => hk.1)⟩, ⟨by (with_reducible repeat (first | apply Kd.R_alloc | apply Kd.R_drewN | apply Kd.R_drew)); exact Kd.R_mono (Kd.R_far (p := ⟨gb429, 4, none⟩) (Kd.R_far (p := ⟨gb429, 3, none⟩) (Kd.R_far (p := ⟨gb429, 2, none⟩) (Kd.R_far (p := ⟨gb429, 1, none⟩) (Kd.R_far (p := ⟨gb429, 0, none⟩) (Kd.R_types HO_8.out BK429.out (by decide)) (fun _ hk => hk.2) (.int .i64 t423)) (fun _ hk => hk.2) (.int .i64 t424)) (fun _ hk => hk.2) (.int .i64 t425)) (fun _ hk => hk.2) (.int .i64 t426)) (fun _ hk => hk.2) (.int .i64 t427)) (fun _ hk => hk.1)⟩, ⟨by refine mU ?_; refine blk_far ?_ NB415_429.out _; refine mU ?_; refine blk_far ?_ NB415_429.out _; refine mU ?_; refine blk_far ?_ NB415_429.out _; refine mU ?_; refine blk_far ?_ NB415_429.out _; refine mU ?_; refine blk_far ?_ NB415_429.out _; refine mU ?_; exact BK415.out⟩, ⟨mB⟩⟩
          ·replace c33 := Bool.eq_false_iff.mpr c33
           subst c33
           have H1 : (rotaref08_named.l0 k1 false x7_1 t419 (wrap64 (x9_1 + 1)) l0_0 l0_1 l0_2) = some r := by rw [if_neg (show ¬ (false = true) by decide)] at H; exact H
           clear H
           have H := H1
           clear H1
           have H' := K1 H
           clear H
           obtain ⟨Ao54, co54, eo54⟩ := Kd.R_slice HO_8.out
           subst eo54
           obtain ⟨hcz55_0, hcz55_1, hcz55_2, hfz55_0, hfz55_1, hfz55_2⟩ := cf3 BK415
           have p422 : 0 ≤ (x9_1 : Int) := of_decide_eq_true (mA)
           have q422 : x9_1 < (l0_0.length : Int) := of_decide_eq_true (mA)
           obtain ⟨ad422, e422, hx422_0⟩ := Kd.at_int HR0_0.out x9_1 p422 q422
           cases e422
           replace hx422_0 := (HB.out.cell (World.block_lt_of_cell? w _ hx422_0)).trans hx422_0
           replace p422 := eq_true p422
           replace q422 := eq_true q422
           go_wp2_with (first | ((with_reducible refine gate_callee (f := 27) rfl ?_); refine goesL_ (some 31) rfl rfl Try.func27 (by kernel_rfl) rfl #[.int .u32 (rd l0_0 x9_1)] rfl mL ?_; (with_reducible refine (rotaref06_Decode.calls k1 (rd l0_0 x9_1) t423 t424 t425 t426 t427 t428 _ A16.out).mono ?_); rintro e w56 ⟨rfl, hb⟩; refine ⟨_, rfl, ?_⟩; replace HO_7 := K1 (Kd.R_below (mV HO_7.out) hb); replace HO_8 := K1 (Kd.R_below (mV HO_8.out) hb); replace BK415 := K1 (blk_below (mU BK415.out) hb); replace HB := K1 (below_step mB hb); (try clear hb)) | ((with_reducible refine gate_dst (N := 10) rfl ?_); refine bev (N := 10) (cs := #[.int .i64 0, .int .i64 0, .int .i64 0, .int .i64 0, .int .i64 0]) (t := 48) (h := ?_); intro gb429 hg w57 hbox hb; have BK429 := K1 (hbox); have GW429 := K1 (mG : w.heap.size ≤ gb429); have GE429 := K1 (mG : w.heap.size ≤ gb429); have NB415_429 := K1 (nlt hg (mU BK415.out)); have NB429_415 := K1 (ngt hg (mU BK415.out)); replace HO_7 := K1 (Kd.R_below (mV HO_7.out) hb); replace HO_8 := K1 (Kd.R_below (mV HO_8.out) hb); replace BK415 := K1 (blk_below (mU BK415.out) hb); replace HB := K1 (below_step mB hb); clear hb hbox hg; have hnb58 := NB429_415.out; have hnc58 := NB415_429.out; obtain ⟨hcz59_0, hcz59_1, hcz59_2, hcz59_3, hcz59_4, hfz59_0, hfz59_1, hfz59_2, hfz59_3, hfz59_4⟩ := cf5 BK429; have p430 : 0 ≤ (x9_1 : Int) := of_decide_eq_true (mA); have q430 : x9_1 < (t419.length : Int) := of_decide_eq_true (mA); obtain ⟨ad430, e430, hx430_0⟩ := Kd.at_bool (Kd.R_reads' HO_8.out).2.2 x9_1 p430 q430; (try rw [← Nbq17.out] at hx430_0); cases e430; have hn430_0 : ad430.block ≠ gb429 := Kd.own_blk (Kd.R_ne HO_8.out BK429.out (by decide)); have hn430_1 : ad430.block ≠ gb429 := Kd.own_blk (Kd.R_ne HO_8.out BK429.out (by decide)); have hn430_2 : ad430.block ≠ gb429 := Kd.own_blk (Kd.R_ne HO_8.out BK429.out (by decide)); have hn430_3 : ad430.block ≠ gb429 := Kd.own_blk (Kd.R_ne HO_8.out BK429.out (by decide)); have hn430_4 : ad430.block ≠ gb429 := Kd.own_blk (Kd.R_ne HO_8.out BK429.out (by decide)); replace hx430_0 := (cell_far (p := ⟨gb429, 0, none⟩) (by first | (rw [add_block]; exact hn430_0) | (show (Addr.add _ _).block ≠ _; rw [add_block]; exact hn430_0) | exact hn430_0) (.int .i64 t423)).trans hx430_0; replace hx430_0 := (cell_far (p := ⟨gb429, 1, none⟩) (by first | (rw [add_block]; exact hn430_1) | (show (Addr.add _ _).block ≠ _; rw [add_block]; exact hn430_1) | exact hn430_1) (.int .i64 t424)).trans hx430_0; replace hx430_0 := (cell_far (p := ⟨gb429, 2, none⟩) (by first | (rw [add_block]; exact hn430_2) | (show (Addr.add _ _).block ≠ _; rw [add_block]; exact hn430_2) | exact hn430_2) (.int .i64 t425)).trans hx430_0; replace hx430_0 := (cell_far (p := ⟨gb429, 3, none⟩) (by first | (rw [add_block]; exact hn430_3) | (show (Addr.add _ _).block ≠ _; rw [add_block]; exact hn430_3) | exact hn430_3) (.int .i64 t426)).trans hx430_0; replace hx430_0 := (cell_far (p := ⟨gb429, 4, none⟩) (by first | (rw [add_block]; exact hn430_4) | (show (Addr.add _ _).block ≠ _; rw [add_block]; exact hn430_4) | exact hn430_4) (.int .i64 t427)).trans hx430_0; clear hn430_0; clear hn430_1; clear hn430_2; clear hn430_3; clear hn430_4; replace p430 := eq_true p430; replace q430 := eq_true q430))
           go_roundg k1
           case measure => have := HK1.out; omega
           case rel => exact ⟨(x7_1), (wrap64 (x9_1 + 1)), (mF), H', ⟨by have := HK1.out; omega⟩, ⟨by (with_reducible repeat (first | apply Kd.R_alloc | apply Kd.R_drewN | apply Kd.R_drew)); exact Kd.R_mono (Kd.R_far (p := ⟨gb429, 4, none⟩) (Kd.R_far (p := ⟨gb429, 3, none⟩) (Kd.R_far (p := ⟨gb429, 2, none⟩) (Kd.R_far (p := ⟨gb429, 1, none⟩) (Kd.R_far (p := ⟨gb429, 0, none⟩) (Kd.R_types HO_7.out BK429.out (by decide)) (fun _ hk => hk.2) (.int .i64 t423)) (fun _ hk => hk.2) (.int .i64 t424)) (fun _ hk => hk.2) (.int .i64 t425)) (fun _ hk => hk.2) (.int .i64 t426)) (fun _ hk => hk.2) (.int .i64 t427)) (fun _ hk => hk.1)⟩, ⟨by (with_reducible repeat (first | apply Kd.R_alloc | apply Kd.R_drewN | apply Kd.R_drew)); exact Kd.R_mono (Kd.R_far (p := ⟨gb429, 4, none⟩) (Kd.R_far (p := ⟨gb429, 3, none⟩) (Kd.R_far (p := ⟨gb429, 2, none⟩) (Kd.R_far (p := ⟨gb429, 1, none⟩) (Kd.R_far (p := ⟨gb429, 0, none⟩) (Kd.R_types HO_8.out BK429.out (by decide)) (fun _ hk => hk.2) (.int .i64 t423)) (fun _ hk => hk.2) (.int .i64 t424)) (fun _ hk => hk.2) (.int .i64 t425)) (fun _ hk => hk.2) (.int .i64 t426)) (fun _ hk => hk.2) (.int .i64 t427)) (fun _ hk => hk.1)⟩, ⟨by refine mU ?_; refine blk_far ?_ NB415_429.out _; refine mU ?_; refine blk_far ?_ NB415_429.out _; refine mU ?_; refine blk_far ?_ NB415_429.out _; refine mU ?_; refine blk_far ?_ NB415_429.out _; refine mU ?_; refine blk_far ?_ NB415_429.out _; refine mU ?_; exact BK415.out⟩, ⟨mB⟩⟩
        ·replace c18 := Bool.eq_false_iff.mpr c18
         subst c18
         have H1 : (rotaref08_named.l0 k1 a2 x7_1 t419 (wrap64 (x9_1 + 1)) l0_0 l0_1 l0_2) = some r := by rw [if_neg (show ¬ (false = true) by decide)] at H; exact H
         clear H
         have H := H1
         clear H1
         have H' := K1 H
         clear H
         obtain ⟨Ao60, co60, eo60⟩ := Kd.R_slice HO_8.out
         subst eo60
         obtain ⟨hcz61_0, hcz61_1, hcz61_2, hfz61_0, hfz61_1, hfz61_2⟩ := cf3 BK415
         have p422 : 0 ≤ (x9_1 : Int) := of_decide_eq_true (mA)
         have q422 : x9_1 < (l0_0.length : Int) := of_decide_eq_true (mA)
         obtain ⟨ad422, e422, hx422_0⟩ := Kd.at_int HR0_0.out x9_1 p422 q422
         cases e422
         replace hx422_0 := (HB.out.cell (World.block_lt_of_cell? w _ hx422_0)).trans hx422_0
         replace p422 := eq_true p422
         replace q422 := eq_true q422
         go_wp2_with (first | ((with_reducible refine gate_callee (f := 27) rfl ?_); refine goesL_ (some 31) rfl rfl Try.func27 (by kernel_rfl) rfl #[.int .u32 (rd l0_0 x9_1)] rfl mL ?_; (with_reducible refine (rotaref06_Decode.calls k1 (rd l0_0 x9_1) t423 t424 t425 t426 t427 t428 _ A16.out).mono ?_); rintro e w62 ⟨rfl, hb⟩; refine ⟨_, rfl, ?_⟩; replace HO_7 := K1 (Kd.R_below (mV HO_7.out) hb); replace HO_8 := K1 (Kd.R_below (mV HO_8.out) hb); replace BK415 := K1 (blk_below (mU BK415.out) hb); replace HB := K1 (below_step mB hb); (try clear hb)) | ((with_reducible refine gate_dst (N := 10) rfl ?_); refine bev (N := 10) (cs := #[.int .i64 0, .int .i64 0, .int .i64 0, .int .i64 0, .int .i64 0]) (t := 48) (h := ?_); intro gb429 hg w63 hbox hb; have BK429 := K1 (hbox); have GW429 := K1 (mG : w.heap.size ≤ gb429); have GE429 := K1 (mG : w.heap.size ≤ gb429); have NB415_429 := K1 (nlt hg (mU BK415.out)); have NB429_415 := K1 (ngt hg (mU BK415.out)); replace HO_7 := K1 (Kd.R_below (mV HO_7.out) hb); replace HO_8 := K1 (Kd.R_below (mV HO_8.out) hb); replace BK415 := K1 (blk_below (mU BK415.out) hb); replace HB := K1 (below_step mB hb); clear hb hbox hg; have hnb64 := NB429_415.out; have hnc64 := NB415_429.out; obtain ⟨hcz65_0, hcz65_1, hcz65_2, hcz65_3, hcz65_4, hfz65_0, hfz65_1, hfz65_2, hfz65_3, hfz65_4⟩ := cf5 BK429; have p430 : 0 ≤ (x9_1 : Int) := of_decide_eq_true (mA); have q430 : x9_1 < (t419.length : Int) := of_decide_eq_true (mA); obtain ⟨ad430, e430, hx430_0⟩ := Kd.at_bool (Kd.R_reads' HO_8.out).2.2 x9_1 p430 q430; (try rw [← Nbq17.out] at hx430_0); cases e430; have hn430_0 : ad430.block ≠ gb429 := Kd.own_blk (Kd.R_ne HO_8.out BK429.out (by decide)); have hn430_1 : ad430.block ≠ gb429 := Kd.own_blk (Kd.R_ne HO_8.out BK429.out (by decide)); have hn430_2 : ad430.block ≠ gb429 := Kd.own_blk (Kd.R_ne HO_8.out BK429.out (by decide)); have hn430_3 : ad430.block ≠ gb429 := Kd.own_blk (Kd.R_ne HO_8.out BK429.out (by decide)); have hn430_4 : ad430.block ≠ gb429 := Kd.own_blk (Kd.R_ne HO_8.out BK429.out (by decide)); replace hx430_0 := (cell_far (p := ⟨gb429, 0, none⟩) (by first | (rw [add_block]; exact hn430_0) | (show (Addr.add _ _).block ≠ _; rw [add_block]; exact hn430_0) | exact hn430_0) (.int .i64 t423)).trans hx430_0; replace hx430_0 := (cell_far (p := ⟨gb429, 1, none⟩) (by first | (rw [add_block]; exact hn430_1) | (show (Addr.add _ _).block ≠ _; rw [add_block]; exact hn430_1) | exact hn430_1) (.int .i64 t424)).trans hx430_0; replace hx430_0 := (cell_far (p := ⟨gb429, 2, none⟩) (by first | (rw [add_block]; exact hn430_2) | (show (Addr.add _ _).block ≠ _; rw [add_block]; exact hn430_2) | exact hn430_2) (.int .i64 t425)).trans hx430_0; replace hx430_0 := (cell_far (p := ⟨gb429, 3, none⟩) (by first | (rw [add_block]; exact hn430_3) | (show (Addr.add _ _).block ≠ _; rw [add_block]; exact hn430_3) | exact hn430_3) (.int .i64 t426)).trans hx430_0; replace hx430_0 := (cell_far (p := ⟨gb429, 4, none⟩) (by first | (rw [add_block]; exact hn430_4) | (show (Addr.add _ _).block ≠ _; rw [add_block]; exact hn430_4) | exact hn430_4) (.int .i64 t427)).trans hx430_0; clear hn430_0; clear hn430_1; clear hn430_2; clear hn430_3; clear hn430_4; replace p430 := eq_true p430; replace q430 := eq_true q430))
         go_roundg k1
         case measure => have := HK1.out; omega
         case rel => exact ⟨(x7_1), (wrap64 (x9_1 + 1)), (mF), H', ⟨by have := HK1.out; omega⟩, ⟨by (with_reducible repeat (first | apply Kd.R_alloc | apply Kd.R_drewN | apply Kd.R_drew)); exact Kd.R_mono (Kd.R_far (p := ⟨gb429, 4, none⟩) (Kd.R_far (p := ⟨gb429, 3, none⟩) (Kd.R_far (p := ⟨gb429, 2, none⟩) (Kd.R_far (p := ⟨gb429, 1, none⟩) (Kd.R_far (p := ⟨gb429, 0, none⟩) (Kd.R_types HO_7.out BK429.out (by decide)) (fun _ hk => hk.2) (.int .i64 t423)) (fun _ hk => hk.2) (.int .i64 t424)) (fun _ hk => hk.2) (.int .i64 t425)) (fun _ hk => hk.2) (.int .i64 t426)) (fun _ hk => hk.2) (.int .i64 t427)) (fun _ hk => hk.1)⟩, ⟨by (with_reducible repeat (first | apply Kd.R_alloc | apply Kd.R_drewN | apply Kd.R_drew)); exact Kd.R_mono (Kd.R_far (p := ⟨gb429, 4, none⟩) (Kd.R_far (p := ⟨gb429, 3, none⟩) (Kd.R_far (p := ⟨gb429, 2, none⟩) (Kd.R_far (p := ⟨gb429, 1, none⟩) (Kd.R_far (p := ⟨gb429, 0, none⟩) (Kd.R_types HO_8.out BK429.out (by decide)) (fun _ hk => hk.2) (.int .i64 t423)) (fun _ hk => hk.2) (.int .i64 t424)) (fun _ hk => hk.2) (.int .i64 t425)) (fun _ hk => hk.2) (.int .i64 t426)) (fun _ hk => hk.2) (.int .i64 t427)) (fun _ hk => hk.1)⟩, ⟨by refine mU ?_; refine blk_far ?_ NB415_429.out _; refine mU ?_; refine blk_far ?_ NB415_429.out _; refine mU ?_; refine blk_far ?_ NB415_429.out _; refine mU ?_; refine blk_far ?_ NB415_429.out _; refine mU ?_; refine blk_far ?_ NB415_429.out _; refine mU ?_; exact BK415.out⟩, ⟨mB⟩⟩
       ·rw [if_neg c15] at H
        exact absurd H (by simp)
      ·rw [if_neg c14] at H
       exact absurd H (by simp)
     ·rw [if_neg c13] at H
      have c13b0 : decide (x9_1 < (t419.length : Int)) = false := decide_eq_false c13
      clear c13
      obtain rfl := Option.some.inj H
      obtain ⟨Ao66, co66, eo66⟩ := Kd.R_slice HO_8.out
      subst eo66
      go_wp2
      go_ret
      exact ⟨_, mE, by (with_reducible repeat (first | apply Kd.R_alloc | apply Kd.R_drewN | apply Kd.R_drew)); exact Kd.R_mono HO_7.out (fun _ hk => trivial), mB⟩
  ·rw [if_neg c5] at H
   exact absurd H (by simp)
 ·rw [if_neg c4] at H
  exact absurd H (by simp)

end Go.Proofs.Ytdlikjfffdpmiaa.QProper

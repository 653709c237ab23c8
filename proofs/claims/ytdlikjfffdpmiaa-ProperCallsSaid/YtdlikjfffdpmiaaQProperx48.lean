/- Printed: a function's machine side. Conditions: none. -/
import Derived.Test.YtdlikjfffdpmiaaQProperx0
import Derived.Test.YtdlikjfffdpmiaaQProperx7
import Derived.Test.YtdlikjfffdpmiaaQProperx37
import Derived.Test.YtdlikjfffdpmiaaQProperx39
namespace Go.Proofs.Ytdlikjfffdpmiaa.QProper
open Go.RowKit Go.Proofs.YtdlikjfffdpmiaaW.PrintWords Go.Proofs.YtdlikjfffdpmiaaW.PrintLast Go.Proofs.YtdlikjfffdpmiaaW.PrintMore
set_option linter.unusedVariables false
set_option linter.unusedSimpArgs false

/-! ### proper_named: function 45 -/
def proper_named.l0 : Nat → Bool → List Int → List Int → Int → Int → List Int → List (S34) → List (S58) → Option (List Int)
 | 0, _, _, _, _, _, _, _, _ => none
 | k + 1, x2, x7, x14, x15, x16, x380000, x380001, x380002 => if x16 < x15 then (if 0 ≤ x16 then (if x16 < (x14.length : Int) then (if 0 ≤ (rd x14 x16) then (if (rd x14 x16) < (x380000.length : Int) then ((word_Decode.f k (rd x380000 (rd x14 x16))).bind fun bt385 => (if bt385.1 = 20 then ((slices_Contains_int_int.f k x7 bt385.2.2.2.2.1).bind fun t392 => (if t392 = true then (proper_named.l0 k x2 x7 x14 x15 (wrap64 (x16 + 1)) x380000 x380001 x380002) else (if x7.length < 17592186044416 then (proper_named.l0 k x2 (x7 ++ [bt385.2.2.2.2.1]) x14 x15 (wrap64 (x16 + 1)) x380000 x380001 x380002) else (none)))) else (if x2 = true then (if bt385.1 = 22 then ((slices_Contains_int_int.f k x7 bt385.2.2.2.2.1).bind fun t396 => (if t396 = true then (proper_named.l0 k x2 x7 x14 x15 (wrap64 (x16 + 1)) x380000 x380001 x380002) else (if x7.length < 17592186044416 then (proper_named.l0 k x2 (x7 ++ [bt385.2.2.2.2.1]) x14 x15 (wrap64 (x16 + 1)) x380000 x380001 x380002) else (none)))) else (proper_named.l0 k x2 x7 x14 x15 (wrap64 (x16 + 1)) x380000 x380001 x380002)) else (proper_named.l0 k x2 x7 x14 x15 (wrap64 (x16 + 1)) x380000 x380001 x380002)))) else (none)) else (none)) else (none)) else (none)) else (some x7)
def proper_named.f (k : Nat) (l0_0 : List Int) (l0_1 : List (S34)) (l0_2 : List (S58)) (a1 : Int) (a2 : Bool) : Option (List Int) := (proper_reach.f k l0_0 l0_1 l0_2 a1).bind fun t380 => (proper_named.l0 k a2 ([] : List Int) t380 (t380.length : Int) 0 l0_0 l0_1 l0_2)
theorem proper_named.mono_l : ∀ k, (∀ y0 y1 y2 y3 y4 y5 y6 y7, LeO (proper_named.l0 k y0 y1 y2 y3 y4 y5 y6 y7) (proper_named.l0 (k + 1) y0 y1 y2 y3 y4 y5 y6 y7))
 | 0 => fun _ _ _ _ _ _ _ _ r h => by simp [proper_named.l0] at h
 | k + 1 => by
  have ih0 := proper_named.mono_l k
  ·intro y0 y1 y2 y3 y4 y5 y6 y7
   unfold proper_named.l0
   repeat' first
   | (with_reducible exact ih0 _ _ _ _ _ _ _ _)
   | (with_reducible exact proper_reach.mono _ _ _ _ _)
   | (with_reducible exact slices_Contains_int_int.mono _ _ _)
   | (with_reducible exact word_Decode.mono _ _)
   | (with_reducible exact LeO.refl _)
   | (with_reducible exact LeO.none _)
   | (with_reducible refine LeO.ite ?_ ?_)
   | (with_reducible refine LeO.bind ?_ (fun _ => ?_))
   | exact ih0 _ _ _ _ _ _ _ _
   | exact proper_reach.mono _ _ _ _ _
   | exact slices_Contains_int_int.mono _ _ _
   | exact word_Decode.mono _ _
   | exact LeO.none _
   | refine LeO.ite ?_ ?_
   | refine LeO.bind ?_ (fun _ => ?_)
theorem proper_named.mono : ∀ a0 a1 a2 a3 a4 k, LeO (proper_named.f k a0 a1 a2 a3 a4) (proper_named.f (k + 1) a0 a1 a2 a3 a4) := by
 intro a0 a1 a2 a3 a4 k
 have ih0 := proper_named.mono_l k
 unfold proper_named.f
 repeat' first
   | (with_reducible exact ih0 _ _ _ _ _ _ _ _)
   | (with_reducible exact proper_reach.mono _ _ _ _ _)
   | (with_reducible exact slices_Contains_int_int.mono _ _ _)
   | (with_reducible exact word_Decode.mono _ _)
   | (with_reducible exact LeO.refl _)
   | (with_reducible exact LeO.none _)
   | (with_reducible refine LeO.ite ?_ ?_)
   | (with_reducible refine LeO.bind ?_ (fun _ => ?_))
   | exact ih0 _ _ _ _ _ _ _ _
   | exact proper_reach.mono _ _ _ _ _
   | exact slices_Contains_int_int.mono _ _ _
   | exact word_Decode.mono _ _
   | exact LeO.none _
   | refine LeO.ite ?_ ?_
   | refine LeO.bind ?_ (fun _ => ?_)
set_option maxHeartbeats 8000000 in
set_option maxRecDepth 100000 in
theorem proper_named.calls (k : Nat) (A0_0 : Option Addr) (c0_0 : Nat) (l0_0 : List Int) (A0_1 : Option Addr) (c0_1 : Nat) (l0_1 : List (S34)) (A0_2 : Option Addr) (c0_2 : Nat) (l0_2 : List (S58)) (a1 : Int) (a2 : Bool) (r : List Int) (w : World) (hr0_0 : Kd.C (Kd.int .u32) w A0_0 l0_0.length l0_0) (hc0_0 : l0_0.length ≤ c0_0) (hr0_1 : Kd.C k34 w A0_1 l0_1.length l0_1) (hc0_1 : l0_1.length ≤ c0_1) (hr0_2 : Kd.C k58 w A0_2 l0_2.length l0_2) (hc0_2 : l0_2.length ≤ c0_2) (h : proper_named.f k l0_0 l0_1 l0_2 a1 a2 = some r) :
  Calls Try.prog 45 #[.agg #[.slice A0_0 l0_0.length c0_0, .slice A0_1 l0_1.length c0_1, .slice A0_2 l0_2.length c0_2], .int .i64 a1, .bool a2] w fun e w' => ∃ v0_ : Value, e = .returned (v0_) ∧ Kd.R (Kd.int .i64) 3 w' w.heap.size (fun _ => True) v0_ r ∧ Below w.heap.size w w' := by
 have hu26 := Try.underlying26
 have hu48 := Try.underlying48
 have HR0_0 := K1 hr0_0
 have HC0_0 := K1 hc0_0
 clear hr0_0 hc0_0
 have HR0_1 := K1 hr0_1
 have HC0_1 := K1 hc0_1
 clear hr0_1 hc0_1
 have HR0_2 := K1 hr0_2
 have HC0_2 := K1 hc0_2
 clear hr0_2 hc0_2
 have HB := K1 (Below.refl w.heap.size w)
 have H : ((proper_reach.f k l0_0 l0_1 l0_2 a1).bind fun t380 => (proper_named.l0 k a2 ([] : List Int) t380 (t380.length : Int) 0 l0_0 l0_1 l0_2)) = some r := h
 clear h
 replace H := Option.bind_eq_some_iff.mp H
 obtain ⟨t380, A40, H⟩ := H
 replace H : (proper_named.l0 k a2 ([] : List Int) t380 (t380.length : Int) 0 l0_0 l0_1 l0_2) = some r := H
 have A4 := K1 A40
 clear A40
 have H' := K1 H
 clear H
 go_enter Try.func45, Try.ntmps45
 go_wp2_with (first | ((with_reducible refine gate_dst (N := 3) rfl ?_); refine bev (N := 3) (cs := #[.slice A0_0 l0_0.length c0_0, .slice A0_1 l0_1.length c0_1, .slice A0_2 l0_2.length c0_2]) (t := 26) (h := ?_); intro gb379 hg w5 hbox hb; have BK379 := K1 (hbox); have GW379 := K1 (mG : w.heap.size ≤ gb379); have GE379 := K1 (mG : w.heap.size ≤ gb379); replace HB := K1 (below_step mB hb); clear hb hbox hg; obtain ⟨hcz6_0, hcz6_1, hcz6_2, hfz6_0, hfz6_1, hfz6_2⟩ := cf3 BK379) | ((with_reducible refine gate_callee (f := 42) rfl ?_); refine goesL_ (some 14) rfl rfl Try.func42 (by kernel_rfl) rfl #[.agg #[.slice A0_0 l0_0.length c0_0, .slice A0_1 l0_1.length c0_1, .slice A0_2 l0_2.length c0_2], .int .i64 a1] rfl mL ?_; (with_reducible refine (proper_reach.calls k _ _ l0_0 _ _ l0_1 _ _ l0_2 a1 t380 _ ?side1 ?side2 ?side3 ?side4 ?side5 ?side6 A4.out).mono ?_); (case side1 => exact mC); (case side2 => exact HC0_0.out); (case side3 => exact mC); (case side4 => exact HC0_1.out); (case side5 => exact mC); (case side6 => exact HC0_2.out); rintro e w7 ⟨v381, rfl, ho0, hb⟩; refine ⟨_, rfl, ?_⟩; have HO382 := K1 (Kd.R_lower ho0 (below_size mB)); replace BK379 := K1 (blk_below (mU BK379.out) hb); replace HB := K1 (below_step mB hb); (try clear hb); (try clear ho0); obtain ⟨Ao8, co8, eo8⟩ := Kd.R_slice HO382.out; subst eo8))
 go_loopg [7, 16] k (fun kq v7 v16 w' => ∃ (x7_1 : List Int) (x16_1 : Int), v16 = .int .i64 x16_1 ∧ Aside0 (proper_named.l0 kq a2 x7_1 t380 (t380.length : Int) x16_1 l0_0 l0_1 l0_2 = some r) ∧ Aside0 (kq ≤ k) ∧ Aside0 (Kd.R (Kd.int .i64) 3 w' w.heap.size (fun k_ => some k_ ≠ ((.slice Ao8 t380.length co8) : Value).ownBlock) v7 x7_1) ∧ Aside0 (Kd.R (Kd.int .i64) 3 w' w.heap.size (fun k_ => some k_ ≠ (v7 : Value).ownBlock) (.slice Ao8 t380.length co8) t380) ∧ Aside0 (w'.heap[gb379]? = some (.cells #[(.slice A0_0 l0_0.length c0_0), (.slice A0_1 l0_1.length c0_1), (.slice A0_2 l0_2.length c0_2)] 26 (0, 0))) ∧ Aside0 (Below w.heap.size w w'))
 case atStart => exact ⟨(([] : List Int)), (0), (mF), H', ⟨Nat.le_refl _⟩, ⟨by first | exact Kd.R_nil _ _ _ _ _ | exact Kd.N_nil _ _ _ _ _ | exact Kd.V_nil _ _ _ _ _ | exact Kd.Q_nil _ _ _ _ _ | exact Kd.S_nil _ _ _ _ _⟩, ⟨by (with_reducible repeat (first | apply Kd.R_alloc | apply Kd.R_drewN | apply Kd.R_drew)); exact Kd.R_mono HO382.out (fun _ hk => (by simp [Value.ownBlock]))⟩, ⟨mU BK379.out⟩, ⟨mB⟩⟩
 case round =>
  clear H' hcz6_0 hcz6_1 hcz6_2 hfz6_0 hfz6_1 hfz6_2
  obtain ⟨x7_1, x16_1, rfl, HA, HK1, HO_7, HO_14, BK379, HB⟩ := hrel
  cases gk with
  | zero => exact absurd HA.out (by simp [proper_named.l0])
  | succ k1 =>
   have H := HA.out
   clear HA
   simp only [proper_named.l0] at H
   by_cases c9 : x16_1 < (t380.length : Int)
   ·rw [if_pos c9] at H
    have c9b0 : decide (x16_1 < (t380.length : Int)) = true := decide_eq_true c9
    clear c9
    by_cases c10 : 0 ≤ x16_1
    ·rw [if_pos c10] at H
     have c10b0 : decide (0 ≤ x16_1) = true := decide_eq_true c10
     clear c10
     by_cases c11 : x16_1 < (t380.length : Int)
     ·rw [if_pos c11] at H
      have c11b0 : decide (x16_1 < (t380.length : Int)) = true := decide_eq_true c11
      clear c11
      by_cases c12 : 0 ≤ (rd t380 x16_1)
      ·rw [if_pos c12] at H
       have c12b0 : decide (0 ≤ (rd t380 x16_1)) = true := decide_eq_true c12
       clear c12
       by_cases c13 : (rd t380 x16_1) < (l0_0.length : Int)
       ·rw [if_pos c13] at H
        have c13b0 : decide ((rd t380 x16_1) < (l0_0.length : Int)) = true := decide_eq_true c13
        clear c13
        replace H := Option.bind_eq_some_iff.mp H
        obtain ⟨⟨t385, t386, t387, t388, t389, t390⟩, A140, H⟩ := H
        replace H : (if t385 = 20 then ((slices_Contains_int_int.f k1 x7_1 t389).bind fun t392 => (if t392 = true then (proper_named.l0 k1 a2 x7_1 t380 (t380.length : Int) (wrap64 (x16_1 + 1)) l0_0 l0_1 l0_2) else (if x7_1.length < 17592186044416 then (proper_named.l0 k1 a2 (x7_1 ++ [t389]) t380 (t380.length : Int) (wrap64 (x16_1 + 1)) l0_0 l0_1 l0_2) else (none)))) else (if a2 = true then (if t385 = 22 then ((slices_Contains_int_int.f k1 x7_1 t389).bind fun t396 => (if t396 = true then (proper_named.l0 k1 a2 x7_1 t380 (t380.length : Int) (wrap64 (x16_1 + 1)) l0_0 l0_1 l0_2) else (if x7_1.length < 17592186044416 then (proper_named.l0 k1 a2 (x7_1 ++ [t389]) t380 (t380.length : Int) (wrap64 (x16_1 + 1)) l0_0 l0_1 l0_2) else (none)))) else (proper_named.l0 k1 a2 x7_1 t380 (t380.length : Int) (wrap64 (x16_1 + 1)) l0_0 l0_1 l0_2)) else (proper_named.l0 k1 a2 x7_1 t380 (t380.length : Int) (wrap64 (x16_1 + 1)) l0_0 l0_1 l0_2))) = some r := H
        have A14 := K1 A140
        clear A140
        by_cases c15 : t385 = 20
        ·rw [if_pos c15] at H
         have c15b0 : (t385 == 20) = true := beq_iff_eq.mpr c15
         have c15b1 : (t385 != 20) = false := bne_eq_false_iff_eq.mpr c15
         clear c15
         replace H := Option.bind_eq_some_iff.mp H
         obtain ⟨t392, A160, H⟩ := H
         replace H : (if t392 = true then (proper_named.l0 k1 a2 x7_1 t380 (t380.length : Int) (wrap64 (x16_1 + 1)) l0_0 l0_1 l0_2) else (if x7_1.length < 17592186044416 then (proper_named.l0 k1 a2 (x7_1 ++ [t389]) t380 (t380.length : Int) (wrap64 (x16_1 + 1)) l0_0 l0_1 l0_2) else (none))) = some r := H
         have A16 := K1 A160
         clear A160
         by_cases c17 : t392 = true
         ·subst c17
          have H1 : (proper_named.l0 k1 a2 x7_1 t380 (t380.length : Int) (wrap64 (x16_1 + 1)) l0_0 l0_1 l0_2) = some r := by rw [if_pos rfl] at H; exact H
          clear H
          have H := H1
          clear H1
          have H' := K1 H
          clear H
          have p383 : 0 ≤ (x16_1 : Int) := of_decide_eq_true (mA)
          have q383 : x16_1 < (t380.length : Int) := of_decide_eq_true (mA)
          obtain ⟨ad383, e383, hx383_0⟩ := Kd.at_int (Kd.R_reads' HO_14.out).2.2 x16_1 p383 q383
          cases e383
          replace p383 := eq_true p383
          replace q383 := eq_true q383
          obtain ⟨hcz18_0, hcz18_1, hcz18_2, hfz18_0, hfz18_1, hfz18_2⟩ := cf3 BK379
          have p384 : 0 ≤ ((rd t380 x16_1) : Int) := of_decide_eq_true (mA)
          have q384 : (rd t380 x16_1) < (l0_0.length : Int) := of_decide_eq_true (mA)
          obtain ⟨ad384, e384, hx384_0⟩ := Kd.at_int HR0_0.out (rd t380 x16_1) p384 q384
          cases e384
          replace hx384_0 := (HB.out.cell (World.block_lt_of_cell? w _ hx384_0)).trans hx384_0
          replace p384 := eq_true p384
          replace q384 := eq_true q384
          go_wp2_with (first | ((with_reducible refine gate_callee (f := 59) rfl ?_); refine goesL_ (some 26) rfl rfl Try.func59 (by kernel_rfl) rfl #[.int .u32 (rd l0_0 (rd t380 x16_1))] rfl mL ?_; (with_reducible refine (word_Decode.calls k1 (rd l0_0 (rd t380 x16_1)) t385 t386 t387 t388 t389 t390 _ A14.out).mono ?_); rintro e w19 ⟨rfl, hb⟩; refine ⟨_, rfl, ?_⟩; replace HO_7 := K1 (Kd.R_below (mV HO_7.out) hb); replace HO_14 := K1 (Kd.R_below (mV HO_14.out) hb); replace BK379 := K1 (blk_below (mU BK379.out) hb); replace HB := K1 (below_step mB hb); (try clear hb)) | ((with_reducible refine gate_dst (N := 10) rfl ?_); refine bev (N := 10) (cs := #[.int .i64 0, .int .i64 0, .int .i64 0, .int .i64 0, .int .i64 0]) (t := 48) (h := ?_); intro gb391 hg w20 hbox hb; have BK391 := K1 (hbox); have GW391 := K1 (mG : w.heap.size ≤ gb391); have GE391 := K1 (mG : w.heap.size ≤ gb391); have NB379_391 := K1 (nlt hg (mU BK379.out)); have NB391_379 := K1 (ngt hg (mU BK379.out)); replace HO_7 := K1 (Kd.R_below (mV HO_7.out) hb); replace HO_14 := K1 (Kd.R_below (mV HO_14.out) hb); replace BK379 := K1 (blk_below (mU BK379.out) hb); replace HB := K1 (below_step mB hb); clear hb hbox hg; have hnb21 := NB391_379.out; have hnc21 := NB379_391.out; obtain ⟨hcz22_0, hcz22_1, hcz22_2, hcz22_3, hcz22_4, hfz22_0, hfz22_1, hfz22_2, hfz22_3, hfz22_4⟩ := cf5 BK391; obtain ⟨Ao23, co23, eo23⟩ := Kd.R_slice HO_7.out; subst eo23) | (go_at_call 46; (with_reducible refine (slices_Contains_int_int.calls k1 _ _ x7_1 t389 true _ ?side1 ?side2 A16.out).mono ?_); (case side1 => refine (Kd.R_reads' (e := 3) (base := w.heap.size) (ok := fun k_ => some k_ ≠ (.slice (some ad383) t380.length co8 : Value).ownBlock) (n := x7_1.length) (c := co23) ?_).2.2; exact (by (with_reducible repeat (first | apply Kd.R_alloc | apply Kd.R_drewN | apply Kd.R_drew)); exact (Kd.R_mono (Kd.R_far (p := ⟨gb391, 4, none⟩) (Kd.R_far (p := ⟨gb391, 3, none⟩) (Kd.R_far (p := ⟨gb391, 2, none⟩) (Kd.R_far (p := ⟨gb391, 1, none⟩) (Kd.R_far (p := ⟨gb391, 0, none⟩) (Kd.R_types HO_7.out BK391.out (by decide)) (fun _ hk => hk.2) (.int .i64 t385)) (fun _ hk => hk.2) (.int .i64 t386)) (fun _ hk => hk.2) (.int .i64 t387)) (fun _ hk => hk.2) (.int .i64 t388)) (fun _ hk => hk.2) (.int .i64 t389)) (fun _ h_ => h_.1)))); (case side2 => exact (Kd.R_reads' HO_7.out).2.1); rintro e w' ⟨rfl, ⟨nd, rfl⟩⟩))
          go_roundg k1
          case measure => have := HK1.out; omega
          case rel => exact ⟨(x7_1), (wrap64 (x16_1 + 1)), (mF), H', ⟨by have := HK1.out; omega⟩, ⟨by (with_reducible repeat (first | apply Kd.R_alloc | apply Kd.R_drewN | apply Kd.R_drew)); exact Kd.R_mono (Kd.R_far (p := ⟨gb391, 4, none⟩) (Kd.R_far (p := ⟨gb391, 3, none⟩) (Kd.R_far (p := ⟨gb391, 2, none⟩) (Kd.R_far (p := ⟨gb391, 1, none⟩) (Kd.R_far (p := ⟨gb391, 0, none⟩) (Kd.R_types HO_7.out BK391.out (by decide)) (fun _ hk => hk.2) (.int .i64 t385)) (fun _ hk => hk.2) (.int .i64 t386)) (fun _ hk => hk.2) (.int .i64 t387)) (fun _ hk => hk.2) (.int .i64 t388)) (fun _ hk => hk.2) (.int .i64 t389)) (fun _ hk => hk.1)⟩, ⟨by (with_reducible repeat (first | apply Kd.R_alloc | apply Kd.R_drewN | apply Kd.R_drew)); exact Kd.R_mono (Kd.R_far (p := ⟨gb391, 4, none⟩) (Kd.R_far (p := ⟨gb391, 3, none⟩) (Kd.R_far (p := ⟨gb391, 2, none⟩) (Kd.R_far (p := ⟨gb391, 1, none⟩) (Kd.R_far (p := ⟨gb391, 0, none⟩) (Kd.R_types HO_14.out BK391.out (by decide)) (fun _ hk => hk.2) (.int .i64 t385)) (fun _ hk => hk.2) (.int .i64 t386)) (fun _ hk => hk.2) (.int .i64 t387)) (fun _ hk => hk.2) (.int .i64 t388)) (fun _ hk => hk.2) (.int .i64 t389)) (fun _ hk => hk.1)⟩, ⟨by refine mU ?_; refine blk_far ?_ NB379_391.out _; refine mU ?_; refine blk_far ?_ NB379_391.out _; refine mU ?_; refine blk_far ?_ NB379_391.out _; refine mU ?_; refine blk_far ?_ NB379_391.out _; refine mU ?_; refine blk_far ?_ NB379_391.out _; refine mU ?_; exact BK379.out⟩, ⟨mB⟩⟩
         ·replace c17 := Bool.eq_false_iff.mpr c17
          subst c17
          have H1 : (if x7_1.length < 17592186044416 then (proper_named.l0 k1 a2 (x7_1 ++ [t389]) t380 (t380.length : Int) (wrap64 (x16_1 + 1)) l0_0 l0_1 l0_2) else (none)) = some r := by rw [if_neg (show ¬ (false = true) by decide)] at H; exact H
          clear H
          have H := H1
          clear H1
          by_cases c24 : x7_1.length < 17592186044416
          ·rw [if_pos c24] at H
           have LMc24 := K1 c24
           clear c24
           obtain ⟨y393, hy393⟩ : ∃ y_ : List Int, y_ = (x7_1 ++ [t389]) := ⟨_, rfl⟩
           replace H : (proper_named.l0 k1 a2 y393 t380 (t380.length : Int) (wrap64 (x16_1 + 1)) l0_0 l0_1 l0_2) = some r := by first | (rw [hy393]; with_reducible exact H) | (have H2_ := (Option.bind_some _ _).symm.trans H; rw [hy393]; with_reducible exact H2_) | (have H2_ := (Option.bind_some _ _).symm.trans H; with_reducible exact H2_) | with_reducible exact H | (rw [hy393]; exact H) | exact H
           have Ny393 := K1 hy393
           clear hy393
           have H' := K1 H
           clear H
           have p383 : 0 ≤ (x16_1 : Int) := of_decide_eq_true (mA)
           have q383 : x16_1 < (t380.length : Int) := of_decide_eq_true (mA)
           obtain ⟨ad383, e383, hx383_0⟩ := Kd.at_int (Kd.R_reads' HO_14.out).2.2 x16_1 p383 q383
           cases e383
           replace p383 := eq_true p383
           replace q383 := eq_true q383
           obtain ⟨hcz25_0, hcz25_1, hcz25_2, hfz25_0, hfz25_1, hfz25_2⟩ := cf3 BK379
           have p384 : 0 ≤ ((rd t380 x16_1) : Int) := of_decide_eq_true (mA)
           have q384 : (rd t380 x16_1) < (l0_0.length : Int) := of_decide_eq_true (mA)
           obtain ⟨ad384, e384, hx384_0⟩ := Kd.at_int HR0_0.out (rd t380 x16_1) p384 q384
           cases e384
           replace hx384_0 := (HB.out.cell (World.block_lt_of_cell? w _ hx384_0)).trans hx384_0
           replace p384 := eq_true p384
           replace q384 := eq_true q384
           go_wp2_with (first | ((with_reducible refine gate_callee (f := 59) rfl ?_); refine goesL_ (some 26) rfl rfl Try.func59 (by kernel_rfl) rfl #[.int .u32 (rd l0_0 (rd t380 x16_1))] rfl mL ?_; (with_reducible refine (word_Decode.calls k1 (rd l0_0 (rd t380 x16_1)) t385 t386 t387 t388 t389 t390 _ A14.out).mono ?_); rintro e w26 ⟨rfl, hb⟩; refine ⟨_, rfl, ?_⟩; replace HO_7 := K1 (Kd.R_below (mV HO_7.out) hb); replace HO_14 := K1 (Kd.R_below (mV HO_14.out) hb); replace BK379 := K1 (blk_below (mU BK379.out) hb); replace HB := K1 (below_step mB hb); (try clear hb)) | ((with_reducible refine gate_dst (N := 10) rfl ?_); refine bev (N := 10) (cs := #[.int .i64 0, .int .i64 0, .int .i64 0, .int .i64 0, .int .i64 0]) (t := 48) (h := ?_); intro gb391 hg w27 hbox hb; have BK391 := K1 (hbox); have GW391 := K1 (mG : w.heap.size ≤ gb391); have GE391 := K1 (mG : w.heap.size ≤ gb391); have NB379_391 := K1 (nlt hg (mU BK379.out)); have NB391_379 := K1 (ngt hg (mU BK379.out)); replace HO_7 := K1 (Kd.R_below (mV HO_7.out) hb); replace HO_14 := K1 (Kd.R_below (mV HO_14.out) hb); replace BK379 := K1 (blk_below (mU BK379.out) hb); replace HB := K1 (below_step mB hb); clear hb hbox hg; have hnb28 := NB391_379.out; have hnc28 := NB379_391.out; obtain ⟨hcz29_0, hcz29_1, hcz29_2, hcz29_3, hcz29_4, hfz29_0, hfz29_1, hfz29_2, hfz29_3, hfz29_4⟩ := cf5 BK391; obtain ⟨Ao30, co30, eo30⟩ := Kd.R_slice HO_7.out; subst eo30) | (go_at_call 46; (with_reducible refine (slices_Contains_int_int.calls k1 _ _ x7_1 t389 false _ ?side1 ?side2 A16.out).mono ?_); (case side1 => refine (Kd.R_reads' (e := 3) (base := w.heap.size) (ok := fun k_ => some k_ ≠ (.slice (some ad383) t380.length co8 : Value).ownBlock) (n := x7_1.length) (c := co30) ?_).2.2; exact (by (with_reducible repeat (first | apply Kd.R_alloc | apply Kd.R_drewN | apply Kd.R_drew)); exact (Kd.R_mono (Kd.R_far (p := ⟨gb391, 4, none⟩) (Kd.R_far (p := ⟨gb391, 3, none⟩) (Kd.R_far (p := ⟨gb391, 2, none⟩) (Kd.R_far (p := ⟨gb391, 1, none⟩) (Kd.R_far (p := ⟨gb391, 0, none⟩) (Kd.R_types HO_7.out BK391.out (by decide)) (fun _ hk => hk.2) (.int .i64 t385)) (fun _ hk => hk.2) (.int .i64 t386)) (fun _ hk => hk.2) (.int .i64 t387)) (fun _ hk => hk.2) (.int .i64 t388)) (fun _ hk => hk.2) (.int .i64 t389)) (fun _ h_ => h_.1)))); (case side2 => exact (Kd.R_reads' HO_7.out).2.1); rintro e w' ⟨rfl, ⟨nd, rfl⟩⟩) | ((with_reducible refine gate_builtin (b := .append) (xs := #[.tmp 47, .tmp 50]) rfl ?_); at_builtin; refine Kd.R_append (Kd.int .i64) (w0 := w) w.heap.size rfl (.tmp 47) (.tmp 50) 37 3 (.int .i64 0) 8 rfl Try.underlying37 info3 rfl (by decide) (by omega) (.slice Ao30 x7_1.length co30) x7_1 t389 [.int .i64 t389] (fun k_ => some k_ ≠ (.slice (some ad383) t380.length co8 : Value).ownBlock) (fun _ => False) rfl (by first | (go_simp; done) | (go_simp; rfl)) ?aP (fun _ hk => hk.elim) ?aF ?aO ?aB ?aS ?aL ?_; (case aP => exact rfl); (case aB => exact mB); (case aF => exact (fun k_ hk => Kd.fresh' (Kd.R_lt (by (with_reducible repeat (first | apply Kd.R_alloc | apply Kd.R_drewN | apply Kd.R_drew)); exact (Kd.R_mono (Kd.R_far (p := ⟨gb391, 4, none⟩) (Kd.R_far (p := ⟨gb391, 3, none⟩) (Kd.R_far (p := ⟨gb391, 2, none⟩) (Kd.R_far (p := ⟨gb391, 1, none⟩) (Kd.R_far (p := ⟨gb391, 0, none⟩) (Kd.R_types HO_14.out BK391.out (by decide)) (fun _ hk => hk.2) (.int .i64 t385)) (fun _ hk => hk.2) (.int .i64 t386)) (fun _ hk => hk.2) (.int .i64 t387)) (fun _ hk => hk.2) (.int .i64 t388)) (fun _ hk => hk.2) (.int .i64 t389)) (fun _ h_ => h_.1)))) k_ hk)); (case aO => exact (by (with_reducible repeat (first | apply Kd.R_alloc | apply Kd.R_drewN | apply Kd.R_drew)); exact Kd.R_mono (Kd.R_far (p := ⟨gb391, 4, none⟩) (Kd.R_far (p := ⟨gb391, 3, none⟩) (Kd.R_far (p := ⟨gb391, 2, none⟩) (Kd.R_far (p := ⟨gb391, 1, none⟩) (Kd.R_far (p := ⟨gb391, 0, none⟩) (Kd.R_types HO_7.out BK391.out (by decide)) (fun _ hk => hk.2) (.int .i64 t385)) (fun _ hk => hk.2) (.int .i64 t386)) (fun _ hk => hk.2) (.int .i64 t387)) (fun _ hk => hk.2) (.int .i64 t388)) (fun _ hk => hk.2) (.int .i64 t389)) (fun _ hk => hk.1))); (case aS => exact (below_size mB)); (case aL => have := LMc24.out; omega); intro v394 w31 ho hb hg hat; rw [← Ny393.out] at ho; have HO395 := K1 (ho); replace HO_14 := K1 (Kd.R_after (ok := (fun _ => True)) (by (with_reducible repeat (first | apply Kd.R_alloc | apply Kd.R_drewN | apply Kd.R_drew)); exact Kd.R_mono (Kd.R_far (p := ⟨gb391, 4, none⟩) (Kd.R_far (p := ⟨gb391, 3, none⟩) (Kd.R_far (p := ⟨gb391, 2, none⟩) (Kd.R_far (p := ⟨gb391, 1, none⟩) (Kd.R_far (p := ⟨gb391, 0, none⟩) (Kd.R_types HO_14.out BK391.out (by decide)) (fun _ hk => hk.2) (.int .i64 t385)) (fun _ hk => hk.2) (.int .i64 t386)) (fun _ hk => hk.2) (.int .i64 t387)) (fun _ hk => hk.2) (.int .i64 t388)) (fun _ hk => hk.2) (.int .i64 t389)) (fun _ hk => ⟨trivial, hk.1⟩)) hg hat); replace BK379 := K1 (blk_grown (g := gb379) (o := .cells #[.slice (some ad384) l0_0.length c0_0, .slice A0_1 l0_1.length c0_1, .slice A0_2 l0_2.length c0_2] 26 (0, 0)) (by refine mU ?_; refine blk_far ?_ NB379_391.out _; refine mU ?_; refine blk_far ?_ NB379_391.out _; refine mU ?_; refine blk_far ?_ NB379_391.out _; refine mU ?_; refine blk_far ?_ NB379_391.out _; refine mU ?_; refine blk_far ?_ NB379_391.out _; refine mU ?_; exact BK379.out) hg (Kd.R_ne HO_7.out BK379.out (by decide))); replace BK391 := K1 (blk_grown (g := gb391) (o := .cells #[.int .i64 t385, .int .i64 t386, .int .i64 t387, .int .i64 t388, .int .i64 t389] 48 (0, 0)) (by refine mU ?_; refine blk_put (cs := #[.int .i64 t385, .int .i64 t386, .int .i64 t387, .int .i64 t388, .int .i64 0]) ?_ 4 _ rfl; refine mU ?_; refine blk_put (cs := #[.int .i64 t385, .int .i64 t386, .int .i64 t387, .int .i64 0, .int .i64 0]) ?_ 3 _ rfl; refine mU ?_; refine blk_put (cs := #[.int .i64 t385, .int .i64 t386, .int .i64 0, .int .i64 0, .int .i64 0]) ?_ 2 _ rfl; refine mU ?_; refine blk_put (cs := #[.int .i64 t385, .int .i64 0, .int .i64 0, .int .i64 0, .int .i64 0]) ?_ 1 _ rfl; refine mU ?_; refine blk_put (cs := #[.int .i64 0, .int .i64 0, .int .i64 0, .int .i64 0, .int .i64 0]) ?_ 0 _ rfl; refine mU ?_; exact BK391.out) hg (Kd.R_ne HO_7.out BK391.out (by decide))); replace HB := K1 (hb); clear HO_7; clear ho hb hg hat))
           go_roundg k1
           case measure => have := HK1.out; omega
           case rel => exact ⟨(y393), (wrap64 (x16_1 + 1)), (mF), H', ⟨by have := HK1.out; omega⟩, ⟨mV HO395.out⟩, ⟨by (with_reducible repeat (first | apply Kd.R_alloc | apply Kd.R_drewN | apply Kd.R_drew)); exact Kd.R_mono HO_14.out (fun _ hk => hk.2)⟩, ⟨mU BK379.out⟩, ⟨mB⟩⟩
          ·rw [if_neg c24] at H
           exact absurd H (by simp)
        ·rw [if_neg c15] at H
         have c15b0 : (t385 == 20) = false := beq_eq_false_iff_ne.mpr c15
         have c15b1 : (t385 != 20) = true := bne_iff_ne.mpr c15
         by_cases c32 : a2 = true
         ·subst c32
          have H1 : (if t385 = 22 then ((slices_Contains_int_int.f k1 x7_1 t389).bind fun t396 => (if t396 = true then (proper_named.l0 k1 true x7_1 t380 (t380.length : Int) (wrap64 (x16_1 + 1)) l0_0 l0_1 l0_2) else (if x7_1.length < 17592186044416 then (proper_named.l0 k1 true (x7_1 ++ [t389]) t380 (t380.length : Int) (wrap64 (x16_1 + 1)) l0_0 l0_1 l0_2) else (none)))) else (proper_named.l0 k1 true x7_1 t380 (t380.length : Int) (wrap64 (x16_1 + 1)) l0_0 l0_1 l0_2)) = some r := by rw [if_pos rfl] at H; exact H
          clear H
          have H := H1
          clear H1
          by_cases c33 : t385 = 22
          ·rw [if_pos c33] at H
           have c33b0 : (t385 == 22) = true := beq_iff_eq.mpr c33
           have c33b1 : (t385 != 22) = false := bne_eq_false_iff_eq.mpr c33
           clear c33
           replace H := Option.bind_eq_some_iff.mp H
           obtain ⟨t396, A340, H⟩ := H
           replace H : (if t396 = true then (proper_named.l0 k1 true x7_1 t380 (t380.length : Int) (wrap64 (x16_1 + 1)) l0_0 l0_1 l0_2) else (if x7_1.length < 17592186044416 then (proper_named.l0 k1 true (x7_1 ++ [t389]) t380 (t380.length : Int) (wrap64 (x16_1 + 1)) l0_0 l0_1 l0_2) else (none))) = some r := H
           have A34 := K1 A340
           clear A340
           by_cases c35 : t396 = true
           ·subst c35
            have H1 : (proper_named.l0 k1 true x7_1 t380 (t380.length : Int) (wrap64 (x16_1 + 1)) l0_0 l0_1 l0_2) = some r := by rw [if_pos rfl] at H; exact H
            clear H
            have H := H1
            clear H1
            have H' := K1 H
            clear H
            have p383 : 0 ≤ (x16_1 : Int) := of_decide_eq_true (mA)
            have q383 : x16_1 < (t380.length : Int) := of_decide_eq_true (mA)
            obtain ⟨ad383, e383, hx383_0⟩ := Kd.at_int (Kd.R_reads' HO_14.out).2.2 x16_1 p383 q383
            cases e383
            replace p383 := eq_true p383
            replace q383 := eq_true q383
            obtain ⟨hcz36_0, hcz36_1, hcz36_2, hfz36_0, hfz36_1, hfz36_2⟩ := cf3 BK379
            have p384 : 0 ≤ ((rd t380 x16_1) : Int) := of_decide_eq_true (mA)
            have q384 : (rd t380 x16_1) < (l0_0.length : Int) := of_decide_eq_true (mA)
            obtain ⟨ad384, e384, hx384_0⟩ := Kd.at_int HR0_0.out (rd t380 x16_1) p384 q384
            cases e384
            replace hx384_0 := (HB.out.cell (World.block_lt_of_cell? w _ hx384_0)).trans hx384_0
            replace p384 := eq_true p384
            replace q384 := eq_true q384
            go_wp2_with (first | ((with_reducible refine gate_callee (f := 59) rfl ?_); refine goesL_ (some 26) rfl rfl Try.func59 (by kernel_rfl) rfl #[.int .u32 (rd l0_0 (rd t380 x16_1))] rfl mL ?_; (with_reducible refine (word_Decode.calls k1 (rd l0_0 (rd t380 x16_1)) t385 t386 t387 t388 t389 t390 _ A14.out).mono ?_); rintro e w37 ⟨rfl, hb⟩; refine ⟨_, rfl, ?_⟩; replace HO_7 := K1 (Kd.R_below (mV HO_7.out) hb); replace HO_14 := K1 (Kd.R_below (mV HO_14.out) hb); replace BK379 := K1 (blk_below (mU BK379.out) hb); replace HB := K1 (below_step mB hb); (try clear hb)) | ((with_reducible refine gate_dst (N := 10) rfl ?_); refine bev (N := 10) (cs := #[.int .i64 0, .int .i64 0, .int .i64 0, .int .i64 0, .int .i64 0]) (t := 48) (h := ?_); intro gb391 hg w38 hbox hb; have BK391 := K1 (hbox); have GW391 := K1 (mG : w.heap.size ≤ gb391); have GE391 := K1 (mG : w.heap.size ≤ gb391); have NB379_391 := K1 (nlt hg (mU BK379.out)); have NB391_379 := K1 (ngt hg (mU BK379.out)); replace HO_7 := K1 (Kd.R_below (mV HO_7.out) hb); replace HO_14 := K1 (Kd.R_below (mV HO_14.out) hb); replace BK379 := K1 (blk_below (mU BK379.out) hb); replace HB := K1 (below_step mB hb); clear hb hbox hg; have hnb39 := NB391_379.out; have hnc39 := NB379_391.out; obtain ⟨hcz40_0, hcz40_1, hcz40_2, hcz40_3, hcz40_4, hfz40_0, hfz40_1, hfz40_2, hfz40_3, hfz40_4⟩ := cf5 BK391; obtain ⟨Ao41, co41, eo41⟩ := Kd.R_slice HO_7.out; subst eo41) | (go_at_call 46; (with_reducible refine (slices_Contains_int_int.calls k1 _ _ x7_1 t389 true _ ?side1 ?side2 A34.out).mono ?_); (case side1 => refine (Kd.R_reads' (e := 3) (base := w.heap.size) (ok := fun k_ => some k_ ≠ (.slice (some ad383) t380.length co8 : Value).ownBlock) (n := x7_1.length) (c := co41) ?_).2.2; exact (by (with_reducible repeat (first | apply Kd.R_alloc | apply Kd.R_drewN | apply Kd.R_drew)); exact (Kd.R_mono (Kd.R_far (p := ⟨gb391, 4, none⟩) (Kd.R_far (p := ⟨gb391, 3, none⟩) (Kd.R_far (p := ⟨gb391, 2, none⟩) (Kd.R_far (p := ⟨gb391, 1, none⟩) (Kd.R_far (p := ⟨gb391, 0, none⟩) (Kd.R_types HO_7.out BK391.out (by decide)) (fun _ hk => hk.2) (.int .i64 t385)) (fun _ hk => hk.2) (.int .i64 t386)) (fun _ hk => hk.2) (.int .i64 t387)) (fun _ hk => hk.2) (.int .i64 t388)) (fun _ hk => hk.2) (.int .i64 t389)) (fun _ h_ => h_.1)))); (case side2 => exact (Kd.R_reads' HO_7.out).2.1); rintro e w' ⟨rfl, ⟨nd, rfl⟩⟩))
            go_roundg k1
            case measure => have := HK1.out; omega
            case rel => exact ⟨(x7_1), (wrap64 (x16_1 + 1)), (mF), H', ⟨by have := HK1.out; omega⟩, ⟨by (with_reducible repeat (first | apply Kd.R_alloc | apply Kd.R_drewN | apply Kd.R_drew)); exact Kd.R_mono (Kd.R_far (p := ⟨gb391, 4, none⟩) (Kd.R_far (p := ⟨gb391, 3, none⟩) (Kd.R_far (p := ⟨gb391, 2, none⟩) (Kd.R_far (p := ⟨gb391, 1, none⟩) (Kd.R_far (p := ⟨gb391, 0, none⟩) (Kd.R_types HO_7.out BK391.out (by decide)) (fun _ hk => hk.2) (.int .i64 t385)) (fun _ hk => hk.2) (.int .i64 t386)) (fun _ hk => hk.2) (.int .i64 t387)) (fun _ hk => hk.2) (.int .i64 t388)) (fun _ hk => hk.2) (.int .i64 t389)) (fun _ hk => hk.1)⟩, ⟨by (with_reducible repeat (first | apply Kd.R_alloc | apply Kd.R_drewN | apply Kd.R_drew)); exact Kd.R_mono (Kd.R_far (p := ⟨gb391, 4, none⟩) (Kd.R_far (p := ⟨gb391, 3, none⟩) (Kd.R_far (p := ⟨gb391, 2, none⟩) (Kd.R_far (p := ⟨gb391, 1, none⟩) (Kd.R_far (p := ⟨gb391, 0, none⟩) (Kd.R_types HO_14.out BK391.out (by decide)) (fun _ hk => hk.2) (.int .i64 t385)) (fun _ hk => hk.2) (.int .i64 t386)) (fun _ hk => hk.2) (.int .i64 t387)) (fun _ hk => hk.2) (.int .i64 t388)) (fun _ hk => hk.2) (.int .i64 t389)) (fun _ hk => hk.1)⟩, ⟨by refine mU ?_; refine blk_far ?_ NB379_391.out _; refine mU ?_; refine blk_far ?_ NB379_391.out _; refine mU ?_; refine blk_far ?_ NB379_391.out _; refine mU ?_; refine blk_far ?_ NB379_391.out _; refine mU ?_; refine blk_far ?_ NB379_391.out _; refine mU ?_; exact BK379.out⟩, ⟨mB⟩⟩
           ·replace c35 := Bool.eq_false_iff.mpr c35
            subst c35
            have H1 : (if x7_1.length < 17592186044416 then (proper_named.l0 k1 true (x7_1 ++ [t389]) t380 (t380.length : Int) (wrap64 (x16_1 + 1)) l0_0 l0_1 l0_2) else (none)) = some r := by rw [if_neg (show ¬ (false = true) by decide)] at H; exact H
            clear H
            have H := H1
            clear H1
            by_cases c42 : x7_1.length < 17592186044416
            ·rw [if_pos c42] at H
             have LMc42 := K1 c42
             clear c42
             obtain ⟨y397, hy397⟩ : ∃ y_ : List Int, y_ = (x7_1 ++ [t389]) := ⟨_, rfl⟩
             replace H : (proper_named.l0 k1 true y397 t380 (t380.length : Int) (wrap64 (x16_1 + 1)) l0_0 l0_1 l0_2) = some r := by first | (rw [hy397]; with_reducible exact H) | (have H2_ := (Option.bind_some _ _).symm.trans H; rw [hy397]; with_reducible exact H2_) | (have H2_ := (Option.bind_some _ _).symm.trans H; with_reducible exact H2_) | with_reducible exact H | (rw [hy397]; exact H) | exact H
             have Ny397 := K1 hy397
             clear hy397
             have H' := K1 H
             clear H
             have p383 : 0 ≤ (x16_1 : Int) := of_decide_eq_true (mA)
             have q383 : x16_1 < (t380.length : Int) := of_decide_eq_true (mA)
             obtain ⟨ad383, e383, hx383_0⟩ := Kd.at_int (Kd.R_reads' HO_14.out).2.2 x16_1 p383 q383
             cases e383
             replace p383 := eq_true p383
             replace q383 := eq_true q383
             obtain ⟨hcz43_0, hcz43_1, hcz43_2, hfz43_0, hfz43_1, hfz43_2⟩ := cf3 BK379
             have p384 : 0 ≤ ((rd t380 x16_1) : Int) := of_decide_eq_true (mA)
             have q384 : (rd t380 x16_1) < (l0_0.length : Int) := of_decide_eq_true (mA)
             obtain ⟨ad384, e384, hx384_0⟩ := Kd.at_int HR0_0.out (rd t380 x16_1) p384 q384
             cases e384
             replace hx384_0 := (HB.out.cell (World.block_lt_of_cell? w _ hx384_0)).trans hx384_0
             replace p384 := eq_true p384
             replace q384 := eq_true q384
             go_wp2_with (first | ((with_reducible refine gate_callee (f := 59) rfl ?_); refine goesL_ (some 26) rfl rfl Try.func59 (by kernel_rfl) rfl #[.int .u32 (rd l0_0 (rd t380 x16_1))] rfl mL ?_; (with_reducible refine (word_Decode.calls k1 (rd l0_0 (rd t380 x16_1)) t385 t386 t387 t388 t389 t390 _ A14.out).mono ?_); rintro e w44 ⟨rfl, hb⟩; refine ⟨_, rfl, ?_⟩; replace HO_7 := K1 (Kd.R_below (mV HO_7.out) hb); replace HO_14 := K1 (Kd.R_below (mV HO_14.out) hb); replace BK379 := K1 (blk_below (mU BK379.out) hb); replace HB := K1 (below_step mB hb); (try clear hb)) | ((with_reducible refine gate_dst (N := 10) rfl ?_); refine bev (N := 10) (cs := #[.int .i64 0, .int .i64 0, .int .i64 0, .int .i64 0, .int .i64 0]) (t := 48) (h := ?_); intro gb391 hg w45 hbox hb; have BK391 := K1 (hbox); have GW391 := K1 (mG : w.heap.size ≤ gb391); have GE391 := K1 (mG : w.heap.size ≤ gb391); have NB379_391 := K1 (nlt hg (mU BK379.out)); have NB391_379 := K1 (ngt hg (mU BK379.out)); replace HO_7 := K1 (Kd.R_below (mV HO_7.out) hb); replace HO_14 := K1 (Kd.R_below (mV HO_14.out) hb); replace BK379 := K1 (blk_below (mU BK379.out) hb); replace HB := K1 (below_step mB hb); clear hb hbox hg; have hnb46 := NB391_379.out; have hnc46 := NB379_391.out; obtain ⟨hcz47_0, hcz47_1, hcz47_2, hcz47_3, hcz47_4, hfz47_0, hfz47_1, hfz47_2, hfz47_3, hfz47_4⟩ := cf5 BK391; obtain ⟨Ao48, co48, eo48⟩ := Kd.R_slice HO_7.out; subst eo48) | (go_at_call 46; (with_reducible refine (slices_Contains_int_int.calls k1 _ _ x7_1 t389 false _ ?side1 ?side2 A34.out).mono ?_); (case side1 => refine (Kd.R_reads' (e := 3) (base := w.heap.size) (ok := fun k_ => some k_ ≠ (.slice (some ad383) t380.length co8 : Value).ownBlock) (n := x7_1.length) (c := co48) ?_).2.2; exact (by (with_reducible repeat (first | apply Kd.R_alloc | apply Kd.R_drewN | apply Kd.R_drew)); exact (Kd.R_mono (Kd.R_far (p := ⟨gb391, 4, none⟩) (Kd.R_far (p := ⟨gb391, 3, none⟩) (Kd.R_far (p := ⟨gb391, 2, none⟩) (Kd.R_far (p := ⟨gb391, 1, none⟩) (Kd.R_far (p := ⟨gb391, 0, none⟩) (Kd.R_types HO_7.out BK391.out (by decide)) (fun _ hk => hk.2) (.int .i64 t385)) (fun _ hk => hk.2) (.int .i64 t386)) (fun _ hk => hk.2) (.int .i64 t387)) (fun _ hk => hk.2) (.int .i64 t388)) (fun _ hk => hk.2) (.int .i64 t389)) (fun _ h_ => h_.1)))); (case side2 => exact (Kd.R_reads' HO_7.out).2.1); rintro e w' ⟨rfl, ⟨nd, rfl⟩⟩) | ((with_reducible refine gate_builtin (b := .append) (xs := #[.tmp 47, .tmp 50]) rfl ?_); at_builtin; refine Kd.R_append (Kd.int .i64) (w0 := w) w.heap.size rfl (.tmp 47) (.tmp 50) 37 3 (.int .i64 0) 8 rfl Try.underlying37 info3 rfl (by decide) (by omega) (.slice Ao48 x7_1.length co48) x7_1 t389 [.int .i64 t389] (fun k_ => some k_ ≠ (.slice (some ad383) t380.length co8 : Value).ownBlock) (fun _ => False) rfl (by first | (go_simp; done) | (go_simp; rfl)) ?aP (fun _ hk => hk.elim) ?aF ?aO ?aB ?aS ?aL ?_; (case aP => exact rfl); (case aB => exact mB); (case aF => exact (fun k_ hk => Kd.fresh' (Kd.R_lt (by (with_reducible repeat (first | apply Kd.R_alloc | apply Kd.R_drewN | apply Kd.R_drew)); exact (Kd.R_mono (Kd.R_far (p := ⟨gb391, 4, none⟩) (Kd.R_far (p := ⟨gb391, 3, none⟩) (Kd.R_far (p := ⟨gb391, 2, none⟩) (Kd.R_far (p := ⟨gb391, 1, none⟩) (Kd.R_far (p := ⟨gb391, 0, none⟩) (Kd.R_types HO_14.out BK391.out (by decide)) (fun _ hk => hk.2) (.int .i64 t385)) (fun _ hk => hk.2) (.int .i64 t386)) (fun _ hk => hk.2) (.int .i64 t387)) (fun _ hk => hk.2) (.int .i64 t388)) (fun _ hk => hk.2) (.int .i64 t389)) (fun _ h_ => h_.1)))) k_ hk)); (case aO => exact (by (with_reducible repeat (first | apply Kd.R_alloc | apply Kd.R_drewN | apply Kd.R_drew)); exact Kd.R_mono (Kd.R_far (p := ⟨gb391, 4, none⟩) (Kd.R_far (p := ⟨gb391, 3, none⟩) (Kd.R_far (p := ⟨gb391, 2, none⟩) (Kd.R_far (p := ⟨gb391, 1, none⟩) (Kd.R_far (p := ⟨gb391, 0, none⟩) (Kd.R_types HO_7.out BK391.out (by decide)) (fun _ hk => hk.2) (.int .i64 t385)) (fun _ hk => hk.2) (.int .i64 t386)) (fun _ hk => hk.2) (.int .i64 t387)) (fun _ hk => hk.2) (.int .i64 t388)) (fun _ hk => hk.2) (.int .i64 t389)) (fun _ hk => hk.1))); (case aS => exact (below_size mB)); (case aL => have := LMc42.out; omega); intro v398 w49 ho hb hg hat; rw [← Ny397.out] at ho; have HO399 := K1 (ho); replace HO_14 := K1 (Kd.R_after (ok := (fun _ => True)) (by (with_reducible repeat (first | apply Kd.R_alloc | apply Kd.R_drewN | apply Kd.R_drew)); exact Kd.R_mono (Kd.R_far (p := ⟨gb391, 4, none⟩) (Kd.R_far (p := ⟨gb391, 3, none⟩) (Kd.R_far (p := ⟨gb391, 2, none⟩) (Kd.R_far (p := ⟨gb391, 1, none⟩) (Kd.R_far (p := ⟨gb391, 0, none⟩) (Kd.R_types HO_14.out BK391.out (by decide)) (fun _ hk => hk.2) (.int .i64 t385)) (fun _ hk => hk.2) (.int .i64 t386)) (fun _ hk => hk.2) (.int .i64 t387)) (fun _ hk => hk.2) (.int .i64 t388)) (fun _ hk => hk.2) (.int .i64 t389)) (fun _ hk => ⟨trivial, hk.1⟩)) hg hat); replace BK379 := K1 (blk_grown (g := gb379) (o := .cells #[.slice (some ad384) l0_0.length c0_0, .slice A0_1 l0_1.length c0_1, .slice A0_2 l0_2.length c0_2] 26 (0, 0)) (by refine mU ?_; refine blk_far ?_ NB379_391.out _; refine mU ?_; refine blk_far ?_ NB379_391.out _; refine mU ?_; refine blk_far ?_ NB379_391.out _; refine mU ?_; refine blk_far ?_ NB379_391.out _; refine mU ?_; refine blk_far ?_ NB379_391.out _; refine mU ?_; exact BK379.out) hg (Kd.R_ne HO_7.out BK379.out (by decide))); replace BK391 := K1 (blk_grown (g := gb391) (o := .cells #[.int .i64 t385, .int .i64 t386, .int .i64 t387, .int .i64 t388, .int .i64 t389] 48 (0, 0)) (by refine mU ?_; refine blk_put (cs := #[.int .i64 t385, .int .i64 t386, .int .i64 t387, .int .i64 t388, .int .i64 0]) ?_ 4 _ rfl; refine mU ?_; refine blk_put (cs := #[.int .i64 t385, .int .i64 t386, .int .i64 t387, .int .i64 0, .int .i64 0]) ?_ 3 _ rfl; refine mU ?_; refine blk_put (cs := #[.int .i64 t385, .int .i64 t386, .int .i64 0, .int .i64 0, .int .i64 0]) ?_ 2 _ rfl; refine mU ?_; refine blk_put (cs := #[.int .i64 t385, .int .i64 0, .int .i64 0, .int .i64 0, .int .i64 0]) ?_ 1 _ rfl; refine mU ?_; refine blk_put (cs := #[.int .i64 0, .int .i64 0, .int .i64 0, .int .i64 0, .int .i64 0]) ?_ 0 _ rfl; refine mU ?_; exact BK391.out) hg (Kd.R_ne HO_7.out BK391.out (by decide))); replace HB := K1 (hb); clear HO_7; clear ho hb hg hat))
             go_roundg k1
             case measure => have := HK1.out; omega
             case rel => exact ⟨(y397), (wrap64 (x16_1 + 1)), (mF), H', ⟨by have := HK1.out; omega⟩, ⟨mV HO399.out⟩, ⟨by (with_reducible repeat (first | apply Kd.R_alloc | apply Kd.R_drewN | apply Kd.R_drew)); exact Kd.R_mono HO_14.out (fun _ hk => hk.2)⟩, ⟨mU BK379.out⟩, ⟨mB⟩⟩
            ·rw [if_neg c42] at H
             exact absurd H (by simp)
          ·rw [if_neg c33] at H
           have c33b0 : (t385 == 22) = false := beq_eq_false_iff_ne.mpr c33
           have c33b1 : (t385 != 22) = true := bne_iff_ne.mpr c33
           have H' := K1 H
           clear H
           have p383 : 0 ≤ (x16_1 : Int) := of_decide_eq_true (mA)
           have q383 : x16_1 < (t380.length : Int) := of_decide_eq_true (mA)
           obtain ⟨ad383, e383, hx383_0⟩ := Kd.at_int (Kd.R_reads' HO_14.out).2.2 x16_1 p383 q383
           cases e383
           replace p383 := eq_true p383
           replace q383 := eq_true q383
           obtain ⟨hcz50_0, hcz50_1, hcz50_2, hfz50_0, hfz50_1, hfz50_2⟩ := cf3 BK379
           have p384 : 0 ≤ ((rd t380 x16_1) : Int) := of_decide_eq_true (mA)
           have q384 : (rd t380 x16_1) < (l0_0.length : Int) := of_decide_eq_true (mA)
           obtain ⟨ad384, e384, hx384_0⟩ := Kd.at_int HR0_0.out (rd t380 x16_1) p384 q384
           cases e384
           replace hx384_0 := (HB.out.cell (World.block_lt_of_cell? w _ hx384_0)).trans hx384_0
           replace p384 := eq_true p384
           replace q384 := eq_true q384
           go_wp2_with (first | ((with_reducible refine gate_callee (f := 59) rfl ?_); refine goesL_ (some 26) rfl rfl Try.func59 (by kernel_rfl) rfl #[.int .u32 (rd l0_0 (rd t380 x16_1))] rfl mL ?_; (with_reducible refine (word_Decode.calls k1 (rd l0_0 (rd t380 x16_1)) t385 t386 t387 t388 t389 t390 _ A14.out).mono ?_); rintro e w51 ⟨rfl, hb⟩; refine ⟨_, rfl, ?_⟩; replace HO_7 := K1 (Kd.R_below (mV HO_7.out) hb); replace HO_14 := K1 (Kd.R_below (mV HO_14.out) hb); replace BK379 := K1 (blk_below (mU BK379.out) hb); replace HB := K1 (below_step mB hb); (try clear hb)) | ((with_reducible refine gate_dst (N := 10) rfl ?_); refine bev (N := 10) (cs := #[.int .i64 0, .int .i64 0, .int .i64 0, .int .i64 0, .int .i64 0]) (t := 48) (h := ?_); intro gb391 hg w52 hbox hb; have BK391 := K1 (hbox); have GW391 := K1 (mG : w.heap.size ≤ gb391); have GE391 := K1 (mG : w.heap.size ≤ gb391); have NB379_391 := K1 (nlt hg (mU BK379.out)); have NB391_379 := K1 (ngt hg (mU BK379.out)); replace HO_7 := K1 (Kd.R_below (mV HO_7.out) hb); replace HO_14 := K1 (Kd.R_below (mV HO_14.out) hb); replace BK379 := K1 (blk_below (mU BK379.out) hb); replace HB := K1 (below_step mB hb); clear hb hbox hg; have hnb53 := NB391_379.out; have hnc53 := NB379_391.out; obtain ⟨hcz54_0, hcz54_1, hcz54_2, hcz54_3, hcz54_4, hfz54_0, hfz54_1, hfz54_2, hfz54_3, hfz54_4⟩ := cf5 BK391))
           go_roundg k1
           case measure => have := HK1.out; omega
           case rel => exact ⟨(x7_1), (wrap64 (x16_1 + 1)), (mF), H', ⟨by have := HK1.out; omega⟩, ⟨by (with_reducible repeat (first | apply Kd.R_alloc | apply Kd.R_drewN | apply Kd.R_drew)); exact Kd.R_mono (Kd.R_far (p := ⟨gb391, 4, none⟩) (Kd.R_far (p := ⟨gb391, 3, none⟩) (Kd.R_far (p := ⟨gb391, 2, none⟩) (Kd.R_far (p := ⟨gb391, 1, none⟩) (Kd.R_far (p := ⟨gb391, 0, none⟩) (Kd.R_types HO_7.out BK391.out (by decide)) (fun _ hk => hk.2) (.int .i64 t385)) (fun _ hk => hk.2) (.int .i64 t386)) (fun _ hk => hk.2) (.int .i64 t387)) (fun _ hk => hk.2) (.int .i64 t388)) (fun _ hk => hk.2) (.int .i64 t389)) (fun _ hk => hk.1)⟩, ⟨by (with_reducible repeat (first | apply Kd.R_alloc | apply Kd.R_drewN | apply Kd.R_drew)); exact Kd.R_mono (Kd.R_far (p := ⟨gb391, 4, none⟩) (Kd.R_far (p := ⟨gb391, 3, none⟩) (Kd.R_far (p := ⟨gb391, 2, none⟩) (Kd.R_far (p := ⟨gb391, 1, none⟩) (Kd.R_far (p := ⟨gb391, 0, none⟩) (Kd.R_types HO_14.out BK391.out (by decide)) (fun _ hk => hk.2) (.int .i64 t385)) (fun _ hk => hk.2) (.int .i64 t386)) (fun _ hk => hk.2) (.int .i64 t387)) (fun _ hk => hk.2) (.int .i64 t388)) (fun _ hk => hk.2) (.int .i64 t389)) (fun _ hk => hk.1)⟩, ⟨by refine mU ?_; refine blk_far ?_ NB379_391.out _; refine mU ?_; refine blk_far ?_ NB379_391.out _; refine mU ?_; refine blk_far ?_ NB379_391.out _; refine mU ?_; refine blk_far ?_ NB379_391.out _; refine mU ?_; refine blk_far ?_ NB379_391.out _; refine mU ?_; exact BK379.out⟩, ⟨mB⟩⟩
         ·replace c32 := Bool.eq_false_iff.mpr c32
          subst c32
          have H1 : (proper_named.l0 k1 false x7_1 t380 (t380.length : Int) (wrap64 (x16_1 + 1)) l0_0 l0_1 l0_2) = some r := by rw [if_neg (show ¬ (false = true) by decide)] at H; exact H
          clear H
          have H := H1
          clear H1
          have H' := K1 H
          clear H
          have p383 : 0 ≤ (x16_1 : Int) := of_decide_eq_true (mA)
          have q383 : x16_1 < (t380.length : Int) := of_decide_eq_true (mA)
          obtain ⟨ad383, e383, hx383_0⟩ := Kd.at_int (Kd.R_reads' HO_14.out).2.2 x16_1 p383 q383
          cases e383
          replace p383 := eq_true p383
          replace q383 := eq_true q383
          obtain ⟨hcz55_0, hcz55_1, hcz55_2, hfz55_0, hfz55_1, hfz55_2⟩ := cf3 BK379
          have p384 : 0 ≤ ((rd t380 x16_1) : Int) := of_decide_eq_true (mA)
          have q384 : (rd t380 x16_1) < (l0_0.length : Int) := of_decide_eq_true (mA)
          obtain ⟨ad384, e384, hx384_0⟩ := Kd.at_int HR0_0.out (rd t380 x16_1) p384 q384
          cases e384
          replace hx384_0 := (HB.out.cell (World.block_lt_of_cell? w _ hx384_0)).trans hx384_0
          replace p384 := eq_true p384
          replace q384 := eq_true q384
          go_wp2_with (first | ((with_reducible refine gate_callee (f := 59) rfl ?_); refine goesL_ (some 26) rfl rfl Try.func59 (by kernel_rfl) rfl #[.int .u32 (rd l0_0 (rd t380 x16_1))] rfl mL ?_; (with_reducible refine (word_Decode.calls k1 (rd l0_0 (rd t380 x16_1)) t385 t386 t387 t388 t389 t390 _ A14.out).mono ?_); rintro e w56 ⟨rfl, hb⟩; refine ⟨_, rfl, ?_⟩; replace HO_7 := K1 (Kd.R_below (mV HO_7.out) hb); replace HO_14 := K1 (Kd.R_below (mV HO_14.out) hb); replace BK379 := K1 (blk_below (mU BK379.out) hb); replace HB := K1 (below_step mB hb); (try clear hb)) | ((with_reducible refine gate_dst (N := 10) rfl ?_); refine bev (N := 10) (cs := #[.int .i64 0, .int .i64 0, .int .i64 0, .int .i64 0, .int .i64 0]) (t := 48) (h := ?_); intro gb391 hg w57 hbox hb; have BK391 := K1 (hbox); have GW391 := K1 (mG : w.heap.size ≤ gb391); have GE391 := K1 (mG : w.heap.size ≤ gb391); have NB379_391 := K1 (nlt hg (mU BK379.out)); have NB391_379 := K1 (ngt hg (mU BK379.out)); replace HO_7 := K1 (Kd.R_below (mV HO_7.out) hb); replace HO_14 := K1 (Kd.R_below (mV HO_14.out) hb); replace BK379 := K1 (blk_below (mU BK379.out) hb); replace HB := K1 (below_step mB hb); clear hb hbox hg; have hnb58 := NB391_379.out; have hnc58 := NB379_391.out; obtain ⟨hcz59_0, hcz59_1, hcz59_2, hcz59_3, hcz59_4, hfz59_0, hfz59_1, hfz59_2, hfz59_3, hfz59_4⟩ := cf5 BK391))
          go_roundg k1
          case measure => have := HK1.out; omega
          case rel => exact ⟨(x7_1), (wrap64 (x16_1 + 1)), (mF), H', ⟨by have := HK1.out; omega⟩, ⟨by (with_reducible repeat (first | apply Kd.R_alloc | apply Kd.R_drewN | apply Kd.R_drew)); exact Kd.R_mono (Kd.R_far (p := ⟨gb391, 4, none⟩) (Kd.R_far (p := ⟨gb391, 3, none⟩) (Kd.R_far (p := ⟨gb391, 2, none⟩) (Kd.R_far (p := ⟨gb391, 1, none⟩) (Kd.R_far (p := ⟨gb391, 0, none⟩) (Kd.R_types HO_7.out BK391.out (by decide)) (fun _ hk => hk.2) (.int .i64 t385)) (fun _ hk => hk.2) (.int .i64 t386)) (fun _ hk => hk.2) (.int .i64 t387)) (fun _ hk => hk.2) (.int .i64 t388)) (fun _ hk => hk.2) (.int .i64 t389)) (fun _ hk => hk.1)⟩, ⟨by (with_reducible repeat (first | apply Kd.R_alloc | apply Kd.R_drewN | apply Kd.R_drew)); exact Kd.R_mono (Kd.R_far (p := ⟨gb391, 4, none⟩) (Kd.R_far (p := ⟨gb391, 3, none⟩) (Kd.R_far (p := ⟨gb391, 2, none⟩) (Kd.R_far (p := ⟨gb391, 1, none⟩) (Kd.R_far (p := ⟨gb391, 0, none⟩) (Kd.R_types HO_14.out BK391.out (by decide)) (fun _ hk => hk.2) (.int .i64 t385)) (fun _ hk => hk.2) (.int .i64 t386)) (fun _ hk => hk.2) (.int .i64 t387)) (fun _ hk => hk.2) (.int .i64 t388)) (fun _ hk => hk.2) (.int .i64 t389)) (fun _ hk => hk.1)⟩, ⟨by refine mU ?_; refine blk_far ?_ NB379_391.out _; refine mU ?_; refine blk_far ?_ NB379_391.out _; refine mU ?_; refine blk_far ?_ NB379_391.out _; refine mU ?_; refine blk_far ?_ NB379_391.out _; refine mU ?_; refine blk_far ?_ NB379_391.out _; refine mU ?_; exact BK379.out⟩, ⟨mB⟩⟩
       ·rw [if_neg c13] at H
        exact absurd H (by simp)
      ·rw [if_neg c12] at H
       exact absurd H (by simp)
     ·rw [if_neg c11] at H
      exact absurd H (by simp)
    ·rw [if_neg c10] at H
     exact absurd H (by simp)
   ·rw [if_neg c9] at H
    have c9b0 : decide (x16_1 < (t380.length : Int)) = false := decide_eq_false c9
    clear c9
    obtain rfl := Option.some.inj H
    go_wp2
    go_ret
    exact ⟨_, mE, by (with_reducible repeat (first | apply Kd.R_alloc | apply Kd.R_drewN | apply Kd.R_drew)); exact Kd.R_mono HO_7.out (fun _ hk => trivial), mB⟩

end Go.Proofs.Ytdlikjfffdpmiaa.QProper

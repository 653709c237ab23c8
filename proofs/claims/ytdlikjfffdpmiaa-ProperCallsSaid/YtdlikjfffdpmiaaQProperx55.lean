/- Printed: a function's machine side. Conditions: none. -/
import Derived.Test.YtdlikjfffdpmiaaQProperx0
import Derived.Test.YtdlikjfffdpmiaaQProperx27
import Derived.Test.YtdlikjfffdpmiaaQProperx50
namespace Go.Proofs.Ytdlikjfffdpmiaa.QProper
open Go.RowKit Go.Proofs.YtdlikjfffdpmiaaW.PrintWords Go.Proofs.YtdlikjfffdpmiaaW.PrintLast Go.Proofs.YtdlikjfffdpmiaaW.PrintMore
set_option linter.unusedVariables false
set_option linter.unusedSimpArgs false

/-! ### rotaref08_Depth: function 26 -/
mutual
def rotaref08_Depth.l0 : Nat → List Bool → Int → List Int → List (S34) → List (S58) → Option (Int × Int)
 | 0, _, _, _, _, _ => none
 | k + 1, x7, x8, x498000, x498001, x498002 => if x8 ≤ (x498001.length : Int) then (if 0 ≤ (x498001.length : Int) then (if ((x498001.length : Int) : Int).toNat ≤ 281474976710656 then (rotaref08_Depth.l1 k x7 x8 (List.replicate ((x498001.length : Int) : Int).toNat false) false 0 x498000 x498001 x498002) else (none)) else (none)) else (some ((-1), 0))
def rotaref08_Depth.l1 : Nat → List Bool → Int → List Bool → Bool → Int → List Int → List (S34) → List (S58) → Option (Int × Int)
 | 0, _, _, _, _, _, _, _, _ => none
 | k + 1, x7, x8, x9, x10, x11, x498000, x498001, x498002 => if x11 < (x7.length : Int) then (if 0 ≤ x11 then (if rdOf false x7 x11 = true then ((rotaref08_named.f k x498000 x498001 x498002 x11 false).bind fun t507 => (rotaref08_Depth.l2 k x7 x8 x9 x10 x11 t507 0 x498000 x498001 x498002)) else (rotaref08_Depth.l1 k x7 x8 x9 x10 (wrap64 (x11 + 1)) x498000 x498001 x498002)) else (none)) else (if x10 = true then (rotaref08_Depth.l0 k x9 (wrap64 (x8 + 1)) x498000 x498001 x498002) else (some (x8, 0)))
def rotaref08_Depth.l2 : Nat → List Bool → Int → List Bool → Bool → Int → List Bool → Int → List Int → List (S34) → List (S58) → Option (Int × Int)
 | 0, _, _, _, _, _, _, _, _, _, _ => none
 | k + 1, x7, x8, x9, x10, x11, x12, x13, x498000, x498001, x498002 => if x13 < (x12.length : Int) then (if 0 ≤ x13 then (if x13 < (x9.length : Int) then (if rdOf false x9 x13 = true then ((some (x9.set (x13 : Int).toNat true : List Bool)).bind fun y511 => (if x10 = true then (rotaref08_Depth.l2 k x7 x8 y511 true x11 x12 (wrap64 (x13 + 1)) x498000 x498001 x498002) else (rotaref08_Depth.l2 k x7 x8 y511 (rdOf false x12 x13) x11 x12 (wrap64 (x13 + 1)) x498000 x498001 x498002))) else ((some (x9.set (x13 : Int).toNat (rdOf false x12 x13) : List Bool)).bind fun y514 => (if x10 = true then (rotaref08_Depth.l2 k x7 x8 y514 true x11 x12 (wrap64 (x13 + 1)) x498000 x498001 x498002) else (rotaref08_Depth.l2 k x7 x8 y514 (rdOf false x12 x13) x11 x12 (wrap64 (x13 + 1)) x498000 x498001 x498002)))) else (none)) else (none)) else (rotaref08_Depth.l1 k x7 x8 x9 x10 (wrap64 (x11 + 1)) x498000 x498001 x498002)
end
def rotaref08_Depth.f (k : Nat) (l0_0 : List Int) (l0_1 : List (S34)) (l0_2 : List (S58)) (a1 : Int) : Option (Int × Int) := (rotaref08_looked.f k l0_0 l0_1 l0_2 a1 (l0_1.length : Int)).bind fun t498 => (if t498 = 0 then (if 0 ≤ (l0_1.length : Int) then (if ((l0_1.length : Int) : Int).toNat ≤ 281474976710656 then ((some (List.replicate ((l0_1.length : Int) : Int).toNat false : List Bool)).bind fun y499 => (if 0 ≤ a1 then (if a1 < (y499.length : Int) then (rotaref08_Depth.l0 k (y499.set (a1 : Int).toNat true) 0 l0_0 l0_1 l0_2) else (none)) else (none))) else (none)) else (none)) else (some (0, t498)))
theorem rotaref08_Depth.mono_l : ∀ k, (∀ y0 y1 y2 y3 y4, LeO (rotaref08_Depth.l0 k y0 y1 y2 y3 y4) (rotaref08_Depth.l0 (k + 1) y0 y1 y2 y3 y4)) ∧ (∀ y0 y1 y2 y3 y4 y5 y6 y7, LeO (rotaref08_Depth.l1 k y0 y1 y2 y3 y4 y5 y6 y7) (rotaref08_Depth.l1 (k + 1) y0 y1 y2 y3 y4 y5 y6 y7)) ∧ (∀ y0 y1 y2 y3 y4 y5 y6 y7 y8 y9, LeO (rotaref08_Depth.l2 k y0 y1 y2 y3 y4 y5 y6 y7 y8 y9) (rotaref08_Depth.l2 (k + 1) y0 y1 y2 y3 y4 y5 y6 y7 y8 y9))
 | 0 => ⟨fun _ _ _ _ _ r h => by simp [rotaref08_Depth.l0] at h, fun _ _ _ _ _ _ _ _ r h => by simp [rotaref08_Depth.l1] at h, fun _ _ _ _ _ _ _ _ _ _ r h => by simp [rotaref08_Depth.l2] at h⟩
 | k + 1 => by
  obtain ⟨ih0, ih1, ih2⟩ := rotaref08_Depth.mono_l k
  refine ⟨?_, ?_, ?_⟩
  ·intro y0 y1 y2 y3 y4
   unfold rotaref08_Depth.l0
   repeat' first
   | (with_reducible exact ih0 _ _ _ _ _)
   | (with_reducible exact ih1 _ _ _ _ _ _ _ _)
   | (with_reducible exact ih2 _ _ _ _ _ _ _ _ _ _)
   | (with_reducible exact rotaref08_looked.mono _ _ _ _ _ _)
   | (with_reducible exact rotaref08_named.mono _ _ _ _ _ _)
   | (with_reducible exact LeO.refl _)
   | (with_reducible exact LeO.none _)
   | (with_reducible refine LeO.ite ?_ ?_)
   | (with_reducible refine LeO.bind ?_ (fun _ => ?_))
   | exact ih0 _ _ _ _ _
   | exact ih1 _ _ _ _ _ _ _ _
   | exact ih2 _ _ _ _ _ _ _ _ _ _
   | exact rotaref08_looked.mono _ _ _ _ _ _
   | exact rotaref08_named.mono _ _ _ _ _ _
   | exact LeO.none _
   | refine LeO.ite ?_ ?_
   | refine LeO.bind ?_ (fun _ => ?_)
  ·intro y0 y1 y2 y3 y4 y5 y6 y7
   unfold rotaref08_Depth.l1
   repeat' first
   | (with_reducible exact ih0 _ _ _ _ _)
   | (with_reducible exact ih1 _ _ _ _ _ _ _ _)
   | (with_reducible exact ih2 _ _ _ _ _ _ _ _ _ _)
   | (with_reducible exact rotaref08_looked.mono _ _ _ _ _ _)
   | (with_reducible exact rotaref08_named.mono _ _ _ _ _ _)
   | (with_reducible exact LeO.refl _)
   | (with_reducible exact LeO.none _)
   | (with_reducible refine LeO.ite ?_ ?_)
   | (with_reducible refine LeO.bind ?_ (fun _ => ?_))
   | exact ih0 _ _ _ _ _
   | exact ih1 _ _ _ _ _ _ _ _
   | exact ih2 _ _ _ _ _ _ _ _ _ _
   | exact rotaref08_looked.mono _ _ _ _ _ _
   | exact rotaref08_named.mono _ _ _ _ _ _
   | exact LeO.none _
   | refine LeO.ite ?_ ?_
   | refine LeO.bind ?_ (fun _ => ?_)
  ·intro y0 y1 y2 y3 y4 y5 y6 y7 y8 y9
   unfold rotaref08_Depth.l2
   repeat' first
   | (with_reducible exact ih0 _ _ _ _ _)
   | (with_reducible exact ih1 _ _ _ _ _ _ _ _)
   | (with_reducible exact ih2 _ _ _ _ _ _ _ _ _ _)
   | (with_reducible exact rotaref08_looked.mono _ _ _ _ _ _)
   | (with_reducible exact rotaref08_named.mono _ _ _ _ _ _)
   | (with_reducible exact LeO.refl _)
   | (with_reducible exact LeO.none _)
   | (with_reducible refine LeO.ite ?_ ?_)
   | (with_reducible refine LeO.bind ?_ (fun _ => ?_))
   | exact ih0 _ _ _ _ _
   | exact ih1 _ _ _ _ _ _ _ _
   | exact ih2 _ _ _ _ _ _ _ _ _ _
   | exact rotaref08_looked.mono _ _ _ _ _ _
   | exact rotaref08_named.mono _ _ _ _ _ _
   | exact LeO.none _
   | refine LeO.ite ?_ ?_
   | refine LeO.bind ?_ (fun _ => ?_)
theorem rotaref08_Depth.mono : ∀ a0 a1 a2 a3 k, LeO (rotaref08_Depth.f k a0 a1 a2 a3) (rotaref08_Depth.f (k + 1) a0 a1 a2 a3) := by
 intro a0 a1 a2 a3 k
 obtain ⟨ih0, ih1, ih2⟩ := rotaref08_Depth.mono_l k
 unfold rotaref08_Depth.f
 repeat' first
   | (with_reducible exact ih0 _ _ _ _ _)
   | (with_reducible exact ih1 _ _ _ _ _ _ _ _)
   | (with_reducible exact ih2 _ _ _ _ _ _ _ _ _ _)
   | (with_reducible exact rotaref08_looked.mono _ _ _ _ _ _)
   | (with_reducible exact rotaref08_named.mono _ _ _ _ _ _)
   | (with_reducible exact LeO.refl _)
   | (with_reducible exact LeO.none _)
   | (with_reducible refine LeO.ite ?_ ?_)
   | (with_reducible refine LeO.bind ?_ (fun _ => ?_))
   | exact ih0 _ _ _ _ _
   | exact ih1 _ _ _ _ _ _ _ _
   | exact ih2 _ _ _ _ _ _ _ _ _ _
   | exact rotaref08_looked.mono _ _ _ _ _ _
   | exact rotaref08_named.mono _ _ _ _ _ _
   | exact LeO.none _
   | refine LeO.ite ?_ ?_
   | refine LeO.bind ?_ (fun _ => ?_)
set_option maxHeartbeats 8000000 in
set_option maxRecDepth 100000 in
theorem rotaref08_Depth.calls (k : Nat) (A0_0 : Option Addr) (c0_0 : Nat) (l0_0 : List Int) (A0_1 : Option Addr) (c0_1 : Nat) (l0_1 : List (S34)) (A0_2 : Option Addr) (c0_2 : Nat) (l0_2 : List (S58)) (a1 : Int) (r1 : Int) (r2 : Int) (w : World) (hr0_0 : Kd.C (Kd.int .u32) w A0_0 l0_0.length l0_0) (hc0_0 : l0_0.length ≤ c0_0) (hr0_1 : Kd.C k34 w A0_1 l0_1.length l0_1) (hc0_1 : l0_1.length ≤ c0_1) (hr0_2 : Kd.C k58 w A0_2 l0_2.length l0_2) (hc0_2 : l0_2.length ≤ c0_2) (h : rotaref08_Depth.f k l0_0 l0_1 l0_2 a1 = some (r1, r2)) :
  Calls Try.prog 26 #[.agg #[.slice A0_0 l0_0.length c0_0, .slice A0_1 l0_1.length c0_1, .slice A0_2 l0_2.length c0_2], .int .i64 a1] w fun e w' => e = .returned (.tuple #[.int .i64 r1, .int .i64 r2]) ∧ Below w.heap.size w w' := by
 have hu26 := Try.underlying26
 have HR0_0 := K1 hr0_0
 have HC0_0 := K1 hc0_0
 clear hr0_0 hc0_0
 have HR0_1 := K1 hr0_1
 have HC0_1 := K1 hc0_1
 clear hr0_1 hc0_1
 have HR0_2 := K1 hr0_2
 have HC0_2 := K1 hc0_2
 clear hr0_2 hc0_2
 have HB := K1 (Below.refl w.heap.size w)
 have H : ((rotaref08_looked.f k l0_0 l0_1 l0_2 a1 (l0_1.length : Int)).bind fun t498 => (if t498 = 0 then (if 0 ≤ (l0_1.length : Int) then (if ((l0_1.length : Int) : Int).toNat ≤ 281474976710656 then ((some (List.replicate ((l0_1.length : Int) : Int).toNat false : List Bool)).bind fun y499 => (if 0 ≤ a1 then (if a1 < (y499.length : Int) then (rotaref08_Depth.l0 k (y499.set (a1 : Int).toNat true) 0 l0_0 l0_1 l0_2) else (none)) else (none))) else (none)) else (none)) else (some (0, t498)))) = some (r1, r2) := h
 clear h
 replace H := Option.bind_eq_some_iff.mp H
 obtain ⟨t498, A30, H⟩ := H
 replace H : (if t498 = 0 then (if 0 ≤ (l0_1.length : Int) then (if ((l0_1.length : Int) : Int).toNat ≤ 281474976710656 then ((some (List.replicate ((l0_1.length : Int) : Int).toNat false : List Bool)).bind fun y499 => (if 0 ≤ a1 then (if a1 < (y499.length : Int) then (rotaref08_Depth.l0 k (y499.set (a1 : Int).toNat true) 0 l0_0 l0_1 l0_2) else (none)) else (none))) else (none)) else (none)) else (some (0, t498))) = some (r1, r2) := H
 have A3 := K1 A30
 clear A30
 by_cases c4 : t498 = 0
 ·rw [if_pos c4] at H
  have c4b0 : (t498 == 0) = true := beq_iff_eq.mpr c4
  have c4b1 : (t498 != 0) = false := bne_eq_false_iff_eq.mpr c4
  clear c4
  by_cases c5 : 0 ≤ (l0_1.length : Int)
  ·rw [if_pos c5] at H
   have c5b0 := eq_true c5
   have c5b1 : decide (0 ≤ (l0_1.length : Int)) = true := decide_eq_true c5
   clear c5
   by_cases c6 : ((l0_1.length : Int) : Int).toNat ≤ 281474976710656
   ·rw [if_pos c6] at H
    have c6b0 := eq_true c6
    have c6b1 : decide (((l0_1.length : Int) : Int).toNat ≤ 281474976710656) = true := decide_eq_true c6
    clear c6
    obtain ⟨y499, hy499⟩ : ∃ y_ : List Bool, y_ = (List.replicate ((l0_1.length : Int) : Int).toNat false) := ⟨_, rfl⟩
    replace H : (if 0 ≤ a1 then (if a1 < (y499.length : Int) then (rotaref08_Depth.l0 k (y499.set (a1 : Int).toNat true) 0 l0_0 l0_1 l0_2) else (none)) else (none)) = some (r1, r2) := by first | (rw [hy499]; with_reducible exact H) | (have H2_ := (Option.bind_some _ _).symm.trans H; rw [hy499]; with_reducible exact H2_) | (have H2_ := (Option.bind_some _ _).symm.trans H; with_reducible exact H2_) | with_reducible exact H | (rw [hy499]; exact H) | exact H
    have Ny499 := K1 hy499
    clear hy499
    by_cases c7 : 0 ≤ a1
    ·rw [if_pos c7] at H
     have c7b0 : decide (0 ≤ a1) = true := decide_eq_true c7
     clear c7
     by_cases c8 : a1 < (y499.length : Int)
     ·rw [if_pos c8] at H
      have c8b0 : decide (a1 < (y499.length : Int)) = true := decide_eq_true c8
      clear c8
      obtain ⟨y502, hy502⟩ : ∃ y_ : List Bool, y_ = (y499.set (a1 : Int).toNat true) := ⟨_, rfl⟩
      replace H : (rotaref08_Depth.l0 k y502 0 l0_0 l0_1 l0_2) = some (r1, r2) := by first | (rw [hy502]; with_reducible exact H) | (have H2_ := (Option.bind_some _ _).symm.trans H; rw [hy502]; with_reducible exact H2_) | (have H2_ := (Option.bind_some _ _).symm.trans H; with_reducible exact H2_) | with_reducible exact H | (rw [hy502]; exact H) | exact H
      have Ny502 := K1 hy502
      clear hy502
      have H' := K1 H
      clear H
      go_enter Try.func26, Try.ntmps26
      go_wp2_with (first | ((with_reducible refine gate_dst (N := 2) rfl ?_); refine bev (N := 2) (cs := #[.slice A0_0 l0_0.length c0_0, .slice A0_1 l0_1.length c0_1, .slice A0_2 l0_2.length c0_2]) (t := 26) (h := ?_); intro gb497 hg w10 hbox hb; have BK497 := K1 (hbox); have GW497 := K1 (mG : w.heap.size ≤ gb497); have GE497 := K1 (mG : w.heap.size ≤ gb497); replace HB := K1 (below_step mB hb); clear hb hbox hg; obtain ⟨hcz11_0, hcz11_1, hcz11_2, hfz11_0, hfz11_1, hfz11_2⟩ := cf3 BK497) | ((with_reducible refine gate_callee (f := 37) rfl ?_); refine goesL_ (some 19) rfl rfl Try.func37 (by kernel_rfl) rfl #[.agg #[.slice A0_0 l0_0.length c0_0, .slice A0_1 l0_1.length c0_1, .slice A0_2 l0_2.length c0_2], .int .i64 a1, .int .i64 (l0_1.length : Int)] rfl mL ?_; (with_reducible refine (rotaref08_looked.calls k _ _ l0_0 _ _ l0_1 _ _ l0_2 a1 (l0_1.length : Int) t498 _ ?side1 ?side2 ?side3 ?side4 ?side5 ?side6 A3.out).mono ?_); (case side1 => exact mC); (case side2 => exact HC0_0.out); (case side3 => exact mC); (case side4 => exact HC0_1.out); (case side5 => exact mC); (case side6 => exact HC0_2.out); rintro e w12 ⟨rfl, hb⟩; refine ⟨_, rfl, ?_⟩; replace BK497 := K1 (blk_below (mU BK497.out) hb); replace HB := K1 (below_step mB hb); (try clear hb); obtain ⟨hcz13_0, hcz13_1, hcz13_2, hfz13_0, hfz13_1, hfz13_2⟩ := cf3 BK497) | ((with_reducible refine gate_dst (N := 26) rfl ?_); refine Kd.R_make Kd.bool _ 4 rfl (N := 26) rfl 67 _ _ rfl (l0_1.length : Int) rfl rfl Try.underlying67 (.bool false) 1 info4 rfl (by decide) (by omega) false (ok := fun _ => True) (okp := fun _ => True) rfl (fun _ hk => hk) trivial (of_decide_eq_true (mA)) (Nat.le_trans (Nat.mul_le_mul_right _ (of_decide_eq_true (mA) : (l0_1.length : Int).toNat ≤ 281474976710656)) (by omega)) (Below.refl _ _) (Nat.le_refl _) ?_; intro v500 w14 ho15 hb hg_ hnew_; clear hg_ hnew_; (first | rw [← Ny499.out] at ho15 | (simp only [Int.reduceToNat] at ho15; rw [← Ny499.out] at ho15)); have HO501 := K1 (Kd.R_lower ho15 (below_size mB)); replace BK497 := K1 (blk_below (mU BK497.out) hb); replace HB := K1 (below_step mB hb); clear hb ho15; have p9 : 0 ≤ (a1 : Int) := of_decide_eq_true (mA); have q9 : (a1 : Int) < ((y499.length : Int) : Int) := of_decide_eq_true (mA); obtain ⟨go9, co9, eo9, gb9, gl9, cl9, HG9⟩ := Kd.R_form HO501.out (by omega); (first | cases eo9 | (injection eo9 with ea_ en_ ec_; (first | subst ea_ | (injection ea_ with ea_; subst ea_)); subst ec_; clear en_)); have GB9 := K1 gb9; have GG9 := K1 HG9; clear gb9 gl9 HG9; obtain ⟨hx9_0, hf9_0⟩ := Kd.R_celln false HO501.out (a1 : Int) p9 q9; replace p9 := eq_true p9; replace q9 := eq_true q9; obtain ⟨hy16_, hz16_⟩ := Kd.R_celln false HO501.out (a1 : Int) (of_decide_eq_true (mA)) (of_decide_eq_true (mA)); have HP16 := Kd.R_putg HO501.out (a1 : Int) true) | ((with_reducible refine gate_store (t := 4) (p := 29) rfl ?_); refine store_event (t := 4) (p := 29) (v := ?vo_w17) (w1 := (w14.setCell ⟨go9, (a1 : Int).toNat, none⟩ (.bool true))) ?hg ?ho ?hn ?hr ?_; (case ho => rfl); (case hg => rfl); (case hn => rfl); (case hr => first | (go_simp; done) | (go_simp; rfl)); intro w17 hw; have hg : w14.grownBy w17 (some go9) := (by rw [hw]; exact HP16.2); have hp_ : Kd.R Kd.bool 4 w17 w.heap.size (fun _ => True) (.slice (some ⟨go9, 0, none⟩) y499.length co9) y502 := (by rw [hw, Ny502.out]; exact HP16.1); clear HP16; replace BK497 := K1 (blk_grown (mU BK497.out) hg (Kd.R_ne HO501.out BK497.out (by decide))); replace HO501 := K1 (hp_); replace HB := K1 ((by rw [hw]; exact below_set (HB.out) GB9.out : Below w.heap.size w w17)); clear hg hw hp_))
      go_loopg [7, 8] k (fun kq v7 v8 w' => ∃ (x7_1 : List Bool) (x8_1 : Int), v8 = .int .i64 x8_1 ∧ Aside0 (rotaref08_Depth.l0 kq x7_1 x8_1 l0_0 l0_1 l0_2 = some (r1, r2)) ∧ Aside0 (kq ≤ k) ∧ Aside0 (Kd.R Kd.bool 4 w' w.heap.size (fun _ => True) v7 x7_1) ∧ Aside0 (w'.heap[gb497]? = some (.cells #[(.slice A0_0 l0_0.length c0_0), (.slice A0_1 l0_1.length c0_1), (.slice A0_2 l0_2.length c0_2)] 26 (0, 0))) ∧ Aside0 (Below w.heap.size w w'))
      case atStart => exact ⟨(y502), (0), (mF), H', ⟨Nat.le_refl _⟩, ⟨mV HO501.out⟩, ⟨mU BK497.out⟩, ⟨mB⟩⟩
      case round =>
       clear H' c4b0 c4b1 c5b0 c5b1 c6b0 c6b1 c7b0 c8b0 p9 q9 hcz11_0 hcz11_1 hcz11_2 hcz13_0 hcz13_1 hcz13_2 hfz11_0 hfz11_1 hfz11_2 hfz13_0 hfz13_1 hfz13_2 hx9_0
       obtain ⟨x7_1, x8_1, rfl, HA, HK1, HO_7, BK497, HB⟩ := hrel
       cases gk with
       | zero => exact absurd HA.out (by simp [rotaref08_Depth.l0])
       | succ k1 =>
        have H := HA.out
        clear HA
        simp only [rotaref08_Depth.l0] at H
        by_cases c18 : x8_1 ≤ (l0_1.length : Int)
        ·rw [if_pos c18] at H
         have c18b0 : decide (x8_1 ≤ (l0_1.length : Int)) = true := decide_eq_true c18
         clear c18
         by_cases c19 : 0 ≤ (l0_1.length : Int)
         ·rw [if_pos c19] at H
          have c19b0 := eq_true c19
          have c19b1 : decide (0 ≤ (l0_1.length : Int)) = true := decide_eq_true c19
          clear c19
          by_cases c20 : ((l0_1.length : Int) : Int).toNat ≤ 281474976710656
          ·rw [if_pos c20] at H
           have c20b0 := eq_true c20
           have c20b1 : decide (((l0_1.length : Int) : Int).toNat ≤ 281474976710656) = true := decide_eq_true c20
           clear c20
           obtain ⟨y503, hy503⟩ : ∃ y_ : List Bool, y_ = (List.replicate ((l0_1.length : Int) : Int).toNat false) := ⟨_, rfl⟩
           replace H : (rotaref08_Depth.l1 k1 x7_1 x8_1 y503 false 0 l0_0 l0_1 l0_2) = some (r1, r2) := by first | (rw [hy503]; with_reducible exact H) | (have H2_ := (Option.bind_some _ _).symm.trans H; rw [hy503]; with_reducible exact H2_) | (have H2_ := (Option.bind_some _ _).symm.trans H; with_reducible exact H2_) | with_reducible exact H | (rw [hy503]; exact H) | exact H
           have Ny503 := K1 hy503
           clear hy503
           have H' := K1 H
           clear H
           obtain ⟨hcz21_0, hcz21_1, hcz21_2, hfz21_0, hfz21_1, hfz21_2⟩ := cf3 BK497
           go_wp2_with (first | ((with_reducible refine gate_dst (N := 40) rfl ?_); refine Kd.R_make Kd.bool _ 4 rfl (N := 40) rfl 67 _ _ rfl (l0_1.length : Int) rfl rfl Try.underlying67 (.bool false) 1 info4 rfl (by decide) (by omega) false (ok := fun _ => True) (okp := fun _ => True) rfl (fun _ hk => hk) trivial (of_decide_eq_true (mA)) (Nat.le_trans (Nat.mul_le_mul_right _ (of_decide_eq_true (mA) : (l0_1.length : Int).toNat ≤ 281474976710656)) (by omega)) (Below.refl _ _) (Nat.le_refl _) ?_; intro v504 w22 ho23 hb hg_ hnew_; clear hg_ hnew_; (first | rw [← Ny503.out] at ho23 | (simp only [Int.reduceToNat] at ho23; rw [← Ny503.out] at ho23)); have HO505 := K1 (Kd.R_lower (Kd.R_new' ho23 (Kd.R_lt (mV HO_7.out))) (below_size mB)); replace HO_7 := K1 (Kd.R_elder' (mV HO_7.out) (Kd.R_base ho23) hb); replace BK497 := K1 (blk_below (mU BK497.out) hb); replace HB := K1 (below_step mB hb); clear hb ho23))
           go_loopg [10, 11] k1 (fun kq v10 v11 w' => ∃ (x9_2 : List Bool) (x10_2 : Bool) (x11_2 : Int), v10 = .bool x10_2 ∧ v11 = .int .i64 x11_2 ∧ Aside0 (rotaref08_Depth.l1 kq x7_1 x8_1 x9_2 x10_2 x11_2 l0_0 l0_1 l0_2 = some (r1, r2)) ∧ Aside0 (kq ≤ k1) ∧ Aside0 (Kd.R Kd.bool 4 w' w.heap.size (fun k_ => some k_ ≠ (v504 : Value).ownBlock) u7 x7_1) ∧ Aside0 (Kd.R Kd.bool 4 w' w.heap.size (fun k_ => some k_ ≠ (u7 : Value).ownBlock) v504 x9_2) ∧ Aside0 (w'.heap[gb497]? = some (.cells #[(.slice A0_0 l0_0.length c0_0), (.slice A0_1 l0_1.length c0_1), (.slice A0_2 l0_2.length c0_2)] 26 (0, 0))) ∧ Aside0 (Below w.heap.size w w'))
           case atStart => exact ⟨(y503), (false), (0), (mF), (mF), H', ⟨Nat.le_refl _⟩, ⟨by (with_reducible repeat (first | apply Kd.R_alloc | apply Kd.R_drewN | apply Kd.R_drew)); exact Kd.R_mono HO_7.out (fun _ hk => hk.2)⟩, ⟨by (with_reducible repeat (first | apply Kd.R_alloc | apply Kd.R_drewN | apply Kd.R_drew)); exact Kd.R_mono HO505.out (fun _ hk => hk.2)⟩, ⟨mU BK497.out⟩, ⟨mB⟩⟩
           case round =>
            clear H' c18b0 c19b0 c19b1 c20b0 c20b1 hcz21_0 hcz21_1 hcz21_2 hfz21_0 hfz21_1 hfz21_2
            obtain ⟨x9_2, x10_2, x11_2, rfl, rfl, HA, HK2, HO_7, HO_9, BK497, HB⟩ := hrel
            cases gk with
            | zero => exact absurd HA.out (by simp [rotaref08_Depth.l1])
            | succ k2 =>
             have H := HA.out
             clear HA
             simp only [rotaref08_Depth.l1] at H
             by_cases c24 : x11_2 < (x7_1.length : Int)
             ·rw [if_pos c24] at H
              have c24b0 : decide (x11_2 < (x7_1.length : Int)) = true := decide_eq_true c24
              clear c24
              by_cases c25 : 0 ≤ x11_2
              ·rw [if_pos c25] at H
               have c25b0 : decide (0 ≤ x11_2) = true := decide_eq_true c25
               clear c25
               obtain ⟨bq26, hbq26⟩ : ∃ b_ : Bool, b_ = (rdOf false x7_1 x11_2) := ⟨_, rfl⟩
               replace H : (if bq26 = true then ((rotaref08_named.f k2 l0_0 l0_1 l0_2 x11_2 false).bind fun t507 => (rotaref08_Depth.l2 k2 x7_1 x8_1 x9_2 x10_2 x11_2 t507 0 l0_0 l0_1 l0_2)) else (rotaref08_Depth.l1 k2 x7_1 x8_1 x9_2 x10_2 (wrap64 (x11_2 + 1)) l0_0 l0_1 l0_2)) = some (r1, r2) := by rw [← hbq26] at H; exact H
               have Nbq26 := K1 hbq26
               clear hbq26
               by_cases c27 : bq26 = true
               ·subst c27
                have H1 : ((rotaref08_named.f k2 l0_0 l0_1 l0_2 x11_2 false).bind fun t507 => (rotaref08_Depth.l2 k2 x7_1 x8_1 x9_2 x10_2 x11_2 t507 0 l0_0 l0_1 l0_2)) = some (r1, r2) := by rw [if_pos rfl] at H; exact H
                clear H
                have H := H1
                clear H1
                replace H := Option.bind_eq_some_iff.mp H
                obtain ⟨t507, A280, H⟩ := H
                replace H : (rotaref08_Depth.l2 k2 x7_1 x8_1 x9_2 x10_2 x11_2 t507 0 l0_0 l0_1 l0_2) = some (r1, r2) := H
                have A28 := K1 A280
                clear A280
                have H' := K1 H
                clear H
                obtain ⟨Ao29, co29, eo29⟩ := Kd.R_slice HO_7.out
                subst eo29
                have p506 : 0 ≤ (x11_2 : Int) := of_decide_eq_true (mA)
                have q506 : x11_2 < (x7_1.length : Int) := of_decide_eq_true (mA)
                obtain ⟨ad506, e506, hx506_0⟩ := Kd.at_bool (Kd.R_reads' HO_7.out).2.2 x11_2 p506 q506
                (try rw [← Nbq26.out] at hx506_0)
                cases e506
                replace p506 := eq_true p506
                replace q506 := eq_true q506
                obtain ⟨hcz30_0, hcz30_1, hcz30_2, hfz30_0, hfz30_1, hfz30_2⟩ := cf3 BK497
                go_wp2_with (first | ((with_reducible refine gate_callee (f := 50) rfl ?_); refine goesL_ (some 54) rfl rfl Try.func50 (by kernel_rfl) rfl #[.agg #[.slice A0_0 l0_0.length c0_0, .slice A0_1 l0_1.length c0_1, .slice A0_2 l0_2.length c0_2], .int .i64 x11_2, .bool false] rfl mL ?_; (with_reducible refine (rotaref08_named.calls k2 _ _ l0_0 _ _ l0_1 _ _ l0_2 x11_2 false t507 _ ?side1 ?side2 ?side3 ?side4 ?side5 ?side6 A28.out).mono ?_); (case side1 => exact mC); (case side2 => exact HC0_0.out); (case side3 => exact mC); (case side4 => exact HC0_1.out); (case side5 => exact mC); (case side6 => exact HC0_2.out); rintro e w31 ⟨v508, rfl, ho0, hb⟩; refine ⟨_, rfl, ?_⟩; have HO509 := K1 (Kd.R_lower (Kd.R_new' (Kd.R_new' ho0 (Kd.R_lt (mV HO_7.out))) (Kd.R_lt (mV HO_9.out))) (below_size mB)); replace HO_7 := K1 (Kd.R_elder' (mV HO_7.out) (Kd.R_base ho0) hb); replace HO_9 := K1 (Kd.R_elder' (mV HO_9.out) (Kd.R_base ho0) hb); replace BK497 := K1 (blk_below (mU BK497.out) hb); replace HB := K1 (below_step mB hb); (try clear hb); (try clear ho0)))
                go_loopg [10, 13] k2 (fun kq v10 v13 w' => ∃ (x9_3 : List Bool) (x10_3 : Bool) (x13_3 : Int), v10 = .bool x10_3 ∧ v13 = .int .i64 x13_3 ∧ Aside0 (rotaref08_Depth.l2 kq x7_1 x8_1 x9_3 x10_3 x11_2 t507 x13_3 l0_0 l0_1 l0_2 = some (r1, r2)) ∧ Aside0 (kq ≤ k2) ∧ Aside0 (Kd.R Kd.bool 4 w' w.heap.size (fun k_ => some k_ ≠ (v504 : Value).ownBlock ∧ some k_ ≠ (v508 : Value).ownBlock) (.slice (some ad506) x7_1.length co29) x7_1) ∧ Aside0 (Kd.R Kd.bool 4 w' w.heap.size (fun k_ => some k_ ≠ ((.slice (some ad506) x7_1.length co29) : Value).ownBlock ∧ some k_ ≠ (v508 : Value).ownBlock) v504 x9_3) ∧ Aside0 (Kd.R Kd.bool 4 w' w.heap.size (fun k_ => some k_ ≠ ((.slice (some ad506) x7_1.length co29) : Value).ownBlock ∧ some k_ ≠ (v504 : Value).ownBlock) v508 t507) ∧ Aside0 (w'.heap[gb497]? = some (.cells #[(.slice A0_0 l0_0.length c0_0), (.slice A0_1 l0_1.length c0_1), (.slice A0_2 l0_2.length c0_2)] 26 (0, 0))) ∧ Aside0 (Below w.heap.size w w'))
                case atStart => exact ⟨(x9_2), (x10_2), (0), (mF), (mF), H', ⟨Nat.le_refl _⟩, ⟨mV HO_7.out⟩, ⟨mV HO_9.out⟩, ⟨by (with_reducible repeat (first | apply Kd.R_alloc | apply Kd.R_drewN | apply Kd.R_drew)); exact Kd.R_mono HO509.out (fun _ hk => ⟨hk.1.2, hk.2⟩)⟩, ⟨mU BK497.out⟩, ⟨mB⟩⟩
                case round =>
                 clear H' c24b0 c25b0 hcz30_0 hcz30_1 hcz30_2 hfz30_0 hfz30_1 hfz30_2 hx506_0 p506 q506
                 obtain ⟨x9_3, x10_3, x13_3, rfl, rfl, HA, HK3, HO_7, HO_9, HO_12, BK497, HB⟩ := hrel
                 cases gk with
                 | zero => exact absurd HA.out (by simp [rotaref08_Depth.l2])
                 | succ k3 =>
                  have H := HA.out
                  clear HA
                  simp only [rotaref08_Depth.l2] at H
                  by_cases c32 : x13_3 < (t507.length : Int)
                  ·rw [if_pos c32] at H
                   have c32b0 : decide (x13_3 < (t507.length : Int)) = true := decide_eq_true c32
                   clear c32
                   by_cases c33 : 0 ≤ x13_3
                   ·rw [if_pos c33] at H
                    have c33b0 : decide (0 ≤ x13_3) = true := decide_eq_true c33
                    clear c33
                    by_cases c34 : x13_3 < (x9_3.length : Int)
                    ·rw [if_pos c34] at H
                     have c34b0 : decide (x13_3 < (x9_3.length : Int)) = true := decide_eq_true c34
                     clear c34
                     obtain ⟨bq35, hbq35⟩ : ∃ b_ : Bool, b_ = (rdOf false x9_3 x13_3) := ⟨_, rfl⟩
                     replace H : (if bq35 = true then ((some (x9_3.set (x13_3 : Int).toNat true : List Bool)).bind fun y511 => (if x10_3 = true then (rotaref08_Depth.l2 k3 x7_1 x8_1 y511 true x11_2 t507 (wrap64 (x13_3 + 1)) l0_0 l0_1 l0_2) else (rotaref08_Depth.l2 k3 x7_1 x8_1 y511 (rdOf false t507 x13_3) x11_2 t507 (wrap64 (x13_3 + 1)) l0_0 l0_1 l0_2))) else ((some (x9_3.set (x13_3 : Int).toNat (rdOf false t507 x13_3) : List Bool)).bind fun y514 => (if x10_3 = true then (rotaref08_Depth.l2 k3 x7_1 x8_1 y514 true x11_2 t507 (wrap64 (x13_3 + 1)) l0_0 l0_1 l0_2) else (rotaref08_Depth.l2 k3 x7_1 x8_1 y514 (rdOf false t507 x13_3) x11_2 t507 (wrap64 (x13_3 + 1)) l0_0 l0_1 l0_2)))) = some (r1, r2) := by rw [← hbq35] at H; exact H
                     have Nbq35 := K1 hbq35
                     clear hbq35
                     by_cases c36 : bq35 = true
                     ·subst c36
                      have H1 : ((some (x9_3.set (x13_3 : Int).toNat true : List Bool)).bind fun y511 => (if x10_3 = true then (rotaref08_Depth.l2 k3 x7_1 x8_1 y511 true x11_2 t507 (wrap64 (x13_3 + 1)) l0_0 l0_1 l0_2) else (rotaref08_Depth.l2 k3 x7_1 x8_1 y511 (rdOf false t507 x13_3) x11_2 t507 (wrap64 (x13_3 + 1)) l0_0 l0_1 l0_2))) = some (r1, r2) := by rw [if_pos rfl] at H; exact H
                      clear H
                      have H := H1
                      clear H1
                      obtain ⟨y511, hy511⟩ : ∃ y_ : List Bool, y_ = (x9_3.set (x13_3 : Int).toNat true) := ⟨_, rfl⟩
                      replace H : (if x10_3 = true then (rotaref08_Depth.l2 k3 x7_1 x8_1 y511 true x11_2 t507 (wrap64 (x13_3 + 1)) l0_0 l0_1 l0_2) else (rotaref08_Depth.l2 k3 x7_1 x8_1 y511 (rdOf false t507 x13_3) x11_2 t507 (wrap64 (x13_3 + 1)) l0_0 l0_1 l0_2)) = some (r1, r2) := by first | (rw [hy511]; with_reducible exact H) | (have H2_ := (Option.bind_some _ _).symm.trans H; rw [hy511]; with_reducible exact H2_) | (have H2_ := (Option.bind_some _ _).symm.trans H; with_reducible exact H2_) | with_reducible exact H | (rw [hy511]; exact H) | exact H
                      have Ny511 := K1 hy511
                      clear hy511
                      by_cases c38 : x10_3 = true
                      ·subst c38
                       have H1 : (rotaref08_Depth.l2 k3 x7_1 x8_1 y511 true x11_2 t507 (wrap64 (x13_3 + 1)) l0_0 l0_1 l0_2) = some (r1, r2) := by rw [if_pos rfl] at H; exact H
                       clear H
                       have H := H1
                       clear H1
                       have H' := K1 H
                       clear H
                       obtain ⟨Ao39, co39, eo39⟩ := Kd.R_slice HO_12.out
                       subst eo39
                       obtain ⟨Ao40, co40, eo40⟩ := Kd.R_slice HO_9.out
                       subst eo40
                       have p510 : 0 ≤ (x13_3 : Int) := of_decide_eq_true (mA)
                       have q510 : x13_3 < (x9_3.length : Int) := of_decide_eq_true (mA)
                       obtain ⟨ad510, e510, hx510_0⟩ := Kd.at_bool (Kd.R_reads' HO_9.out).2.2 x13_3 p510 q510
                       (try rw [← Nbq26.out] at hx510_0)
                       (try rw [← Nbq35.out] at hx510_0)
                       cases e510
                       replace p510 := eq_true p510
                       replace q510 := eq_true q510
                       have p37 : 0 ≤ (x13_3 : Int) := of_decide_eq_true (mA)
                       have q37 : (x13_3 : Int) < ((x9_3.length : Int) : Int) := of_decide_eq_true (mA)
                       obtain ⟨go37, co37, eo37, gb37, gl37, cl37, HG37⟩ := Kd.R_form HO_9.out (by omega)
                       (first | cases eo37 | (injection eo37 with ea_ en_ ec_; (first | subst ea_ | (injection ea_ with ea_; subst ea_)); subst ec_; clear en_))
                       have GB37 := K1 gb37
                       have GG37 := K1 HG37
                       clear gb37 gl37 HG37
                       (first | simp only [add_plain] at hx510_0 | skip)
                       obtain ⟨hx37_0, hf37_0⟩ := Kd.R_celln false HO_9.out (x13_3 : Int) p37 q37
                       replace p37 := eq_true p37
                       replace q37 := eq_true q37
                       have HP41 := Kd.R_putg HO_9.out (x13_3 : Int) true
                       go_wp2_with (first | ((with_reducible refine gate_store (t := 4) (p := 73) rfl ?_); refine store_event (t := 4) (p := 73) (v := ?vo_w42) (w1 := (wr.setCell ⟨go37, (x13_3 : Int).toNat, none⟩ (.bool true))) ?hg ?ho ?hn ?hr ?_; (case ho => rfl); (case hg => rfl); (case hn => rfl); (case hr => first | (go_simp; done) | (go_simp; rfl)); intro w42 hw; have hg : wr.grownBy w42 (some go37) := (by rw [hw]; exact HP41.2); have hp_ : Kd.R Kd.bool 4 w42 w.heap.size (fun k_ => some k_ ≠ (.slice (some ad506) x7_1.length co29 : Value).ownBlock ∧ some k_ ≠ (.slice Ao39 t507.length co39 : Value).ownBlock) (.slice (some ⟨go37, 0, none⟩) x9_3.length co40) y511 := (by rw [hw, Ny511.out]; exact HP41.1); clear HP41; have n0_ := K1 (Kd.R_after (v := (.slice (some ⟨go37, 0, none⟩) x9_3.length co40)) (v1 := (.slice (some ⟨go37, 0, none⟩) x9_3.length co40)) (ok := (fun k_ => some k_ ≠ (.slice Ao39 t507.length co39 : Value).ownBlock)) (by (with_reducible repeat (first | apply Kd.R_alloc | apply Kd.R_drewN | apply Kd.R_drew)); exact Kd.R_mono HO_7.out (fun _ hk => ⟨hk.2, hk.1⟩)) hg (.inl rfl)); have n1_ := K1 (hp_); have n2_ := K1 (Kd.R_after (v := (.slice (some ⟨go37, 0, none⟩) x9_3.length co40)) (v1 := (.slice (some ⟨go37, 0, none⟩) x9_3.length co40)) (ok := (fun k_ => some k_ ≠ (.slice (some ad506) x7_1.length co29 : Value).ownBlock)) (mV HO_12.out) hg (.inl rfl)); have n3_ := K1 (blk_grown (mU BK497.out) hg (Kd.R_ne HO_9.out BK497.out (by decide))); have n4_ := K1 ((by rw [hw]; exact below_set (HB.out) GB37.out : Below w.heap.size w w42)); clear HO_7; clear HO_9; clear HO_12; clear BK497; clear HB; have HO_7 := n0_; have HO_9 := n1_; have HO_12 := n2_; have BK497 := n3_; have HB := n4_; clear n0_ n1_ n2_ n3_ n4_; clear hg hw hp_))
                       go_roundg k3
                       case measure => have := HK1.out; have := HK2.out; have := HK3.out; omega
                       case rel => exact ⟨(y511), (true), (wrap64 (x13_3 + 1)), (mF), (mF), H', ⟨by have := HK1.out; have := HK2.out; have := HK3.out; omega⟩, ⟨by (with_reducible repeat (first | apply Kd.R_alloc | apply Kd.R_drewN | apply Kd.R_drew)); exact Kd.R_mono HO_7.out (fun _ hk => ⟨hk.2, hk.1⟩)⟩, ⟨mV HO_9.out⟩, ⟨mV HO_12.out⟩, ⟨mU BK497.out⟩, ⟨mB⟩⟩
                      ·replace c38 := Bool.eq_false_iff.mpr c38
                       subst c38
                       have H1 : (rotaref08_Depth.l2 k3 x7_1 x8_1 y511 (rdOf false t507 x13_3) x11_2 t507 (wrap64 (x13_3 + 1)) l0_0 l0_1 l0_2) = some (r1, r2) := by rw [if_neg (show ¬ (false = true) by decide)] at H; exact H
                       clear H
                       have H := H1
                       clear H1
                       have H' := K1 H
                       clear H
                       obtain ⟨Ao43, co43, eo43⟩ := Kd.R_slice HO_12.out
                       subst eo43
                       obtain ⟨Ao44, co44, eo44⟩ := Kd.R_slice HO_9.out
                       subst eo44
                       have p510 : 0 ≤ (x13_3 : Int) := of_decide_eq_true (mA)
                       have q510 : x13_3 < (x9_3.length : Int) := of_decide_eq_true (mA)
                       obtain ⟨ad510, e510, hx510_0⟩ := Kd.at_bool (Kd.R_reads' HO_9.out).2.2 x13_3 p510 q510
                       (try rw [← Nbq26.out] at hx510_0)
                       (try rw [← Nbq35.out] at hx510_0)
                       cases e510
                       replace p510 := eq_true p510
                       replace q510 := eq_true q510
                       have p37 : 0 ≤ (x13_3 : Int) := of_decide_eq_true (mA)
                       have q37 : (x13_3 : Int) < ((x9_3.length : Int) : Int) := of_decide_eq_true (mA)
                       obtain ⟨go37, co37, eo37, gb37, gl37, cl37, HG37⟩ := Kd.R_form HO_9.out (by omega)
                       (first | cases eo37 | (injection eo37 with ea_ en_ ec_; (first | subst ea_ | (injection ea_ with ea_; subst ea_)); subst ec_; clear en_))
                       have GB37 := K1 gb37
                       have GG37 := K1 HG37
                       clear gb37 gl37 HG37
                       (first | simp only [add_plain] at hx510_0 | skip)
                       obtain ⟨hx37_0, hf37_0⟩ := Kd.R_celln false HO_9.out (x13_3 : Int) p37 q37
                       replace p37 := eq_true p37
                       replace q37 := eq_true q37
                       have HP45 := Kd.R_putg HO_9.out (x13_3 : Int) true
                       go_wp2_with (first | ((with_reducible refine gate_store (t := 4) (p := 73) rfl ?_); refine store_event (t := 4) (p := 73) (v := ?vo_w46) (w1 := (wr.setCell ⟨go37, (x13_3 : Int).toNat, none⟩ (.bool true))) ?hg ?ho ?hn ?hr ?_; (case ho => rfl); (case hg => rfl); (case hn => rfl); (case hr => first | (go_simp; done) | (go_simp; rfl)); intro w46 hw; have hg : wr.grownBy w46 (some go37) := (by rw [hw]; exact HP45.2); have hp_ : Kd.R Kd.bool 4 w46 w.heap.size (fun k_ => some k_ ≠ (.slice (some ad506) x7_1.length co29 : Value).ownBlock ∧ some k_ ≠ (.slice Ao43 t507.length co43 : Value).ownBlock) (.slice (some ⟨go37, 0, none⟩) x9_3.length co44) y511 := (by rw [hw, Ny511.out]; exact HP45.1); clear HP45; have n0_ := K1 (Kd.R_after (v := (.slice (some ⟨go37, 0, none⟩) x9_3.length co44)) (v1 := (.slice (some ⟨go37, 0, none⟩) x9_3.length co44)) (ok := (fun k_ => some k_ ≠ (.slice Ao43 t507.length co43 : Value).ownBlock)) (by (with_reducible repeat (first | apply Kd.R_alloc | apply Kd.R_drewN | apply Kd.R_drew)); exact Kd.R_mono HO_7.out (fun _ hk => ⟨hk.2, hk.1⟩)) hg (.inl rfl)); have n1_ := K1 (hp_); have n2_ := K1 (Kd.R_after (v := (.slice (some ⟨go37, 0, none⟩) x9_3.length co44)) (v1 := (.slice (some ⟨go37, 0, none⟩) x9_3.length co44)) (ok := (fun k_ => some k_ ≠ (.slice (some ad506) x7_1.length co29 : Value).ownBlock)) (mV HO_12.out) hg (.inl rfl)); have n3_ := K1 (blk_grown (mU BK497.out) hg (Kd.R_ne HO_9.out BK497.out (by decide))); have n4_ := K1 ((by rw [hw]; exact below_set (HB.out) GB37.out : Below w.heap.size w w46)); clear HO_7; clear HO_9; clear HO_12; clear BK497; clear HB; have HO_7 := n0_; have HO_9 := n1_; have HO_12 := n2_; have BK497 := n3_; have HB := n4_; clear n0_ n1_ n2_ n3_ n4_; clear hg hw hp_; have p512 : 0 ≤ (x13_3 : Int) := of_decide_eq_true (mA); have q512 : x13_3 < (t507.length : Int) := of_decide_eq_true (mA); obtain ⟨ad512, e512, hx512_0⟩ := Kd.at_bool (Kd.R_reads' HO_12.out).2.2 x13_3 p512 q512; (try rw [← Nbq26.out] at hx512_0); (try rw [← Nbq35.out] at hx512_0); cases e512; replace p512 := eq_true p512; replace q512 := eq_true q512))
                       go_roundg k3
                       case measure => have := HK1.out; have := HK2.out; have := HK3.out; omega
                       case rel => exact ⟨(y511), (rdOf false t507 x13_3), (wrap64 (x13_3 + 1)), (mF), (mF), H', ⟨by have := HK1.out; have := HK2.out; have := HK3.out; omega⟩, ⟨by (with_reducible repeat (first | apply Kd.R_alloc | apply Kd.R_drewN | apply Kd.R_drew)); exact Kd.R_mono HO_7.out (fun _ hk => ⟨hk.2, hk.1⟩)⟩, ⟨mV HO_9.out⟩, ⟨mV HO_12.out⟩, ⟨mU BK497.out⟩, ⟨mB⟩⟩
                     ·replace c36 := Bool.eq_false_iff.mpr c36
                      subst c36
                      have H1 : ((some (x9_3.set (x13_3 : Int).toNat (rdOf false t507 x13_3) : List Bool)).bind fun y514 => (if x10_3 = true then (rotaref08_Depth.l2 k3 x7_1 x8_1 y514 true x11_2 t507 (wrap64 (x13_3 + 1)) l0_0 l0_1 l0_2) else (rotaref08_Depth.l2 k3 x7_1 x8_1 y514 (rdOf false t507 x13_3) x11_2 t507 (wrap64 (x13_3 + 1)) l0_0 l0_1 l0_2))) = some (r1, r2) := by rw [if_neg (show ¬ (false = true) by decide)] at H; exact H
                      clear H
                      have H := H1
                      clear H1
                      obtain ⟨y514, hy514⟩ : ∃ y_ : List Bool, y_ = (x9_3.set (x13_3 : Int).toNat (rdOf false t507 x13_3)) := ⟨_, rfl⟩
                      replace H : (if x10_3 = true then (rotaref08_Depth.l2 k3 x7_1 x8_1 y514 true x11_2 t507 (wrap64 (x13_3 + 1)) l0_0 l0_1 l0_2) else (rotaref08_Depth.l2 k3 x7_1 x8_1 y514 (rdOf false t507 x13_3) x11_2 t507 (wrap64 (x13_3 + 1)) l0_0 l0_1 l0_2)) = some (r1, r2) := by first | (rw [hy514]; with_reducible exact H) | (have H2_ := (Option.bind_some _ _).symm.trans H; rw [hy514]; with_reducible exact H2_) | (have H2_ := (Option.bind_some _ _).symm.trans H; with_reducible exact H2_) | with_reducible exact H | (rw [hy514]; exact H) | exact H
                      have Ny514 := K1 hy514
                      clear hy514
                      by_cases c48 : x10_3 = true
                      ·subst c48
                       have H1 : (rotaref08_Depth.l2 k3 x7_1 x8_1 y514 true x11_2 t507 (wrap64 (x13_3 + 1)) l0_0 l0_1 l0_2) = some (r1, r2) := by rw [if_pos rfl] at H; exact H
                       clear H
                       have H := H1
                       clear H1
                       have H' := K1 H
                       clear H
                       obtain ⟨Ao49, co49, eo49⟩ := Kd.R_slice HO_12.out
                       subst eo49
                       obtain ⟨Ao50, co50, eo50⟩ := Kd.R_slice HO_9.out
                       subst eo50
                       have p510 : 0 ≤ (x13_3 : Int) := of_decide_eq_true (mA)
                       have q510 : x13_3 < (x9_3.length : Int) := of_decide_eq_true (mA)
                       obtain ⟨ad510, e510, hx510_0⟩ := Kd.at_bool (Kd.R_reads' HO_9.out).2.2 x13_3 p510 q510
                       (try rw [← Nbq26.out] at hx510_0)
                       (try rw [← Nbq35.out] at hx510_0)
                       cases e510
                       replace p510 := eq_true p510
                       replace q510 := eq_true q510
                       have p513 : 0 ≤ (x13_3 : Int) := of_decide_eq_true (mA)
                       have q513 : x13_3 < (t507.length : Int) := of_decide_eq_true (mA)
                       obtain ⟨ad513, e513, hx513_0⟩ := Kd.at_bool (Kd.R_reads' HO_12.out).2.2 x13_3 p513 q513
                       (try rw [← Nbq26.out] at hx513_0)
                       (try rw [← Nbq35.out] at hx513_0)
                       cases e513
                       replace p513 := eq_true p513
                       replace q513 := eq_true q513
                       have p47 : 0 ≤ (x13_3 : Int) := of_decide_eq_true (mA)
                       have q47 : (x13_3 : Int) < ((x9_3.length : Int) : Int) := of_decide_eq_true (mA)
                       obtain ⟨go47, co47, eo47, gb47, gl47, cl47, HG47⟩ := Kd.R_form HO_9.out (by omega)
                       (first | cases eo47 | (injection eo47 with ea_ en_ ec_; (first | subst ea_ | (injection ea_ with ea_; subst ea_)); subst ec_; clear en_))
                       have GB47 := K1 gb47
                       have GG47 := K1 HG47
                       clear gb47 gl47 HG47
                       (first | simp only [add_plain] at hx510_0 | skip)
                       obtain ⟨hx47_0, hf47_0⟩ := Kd.R_celln false HO_9.out (x13_3 : Int) p47 q47
                       replace p47 := eq_true p47
                       replace q47 := eq_true q47
                       have HP51 := Kd.R_putg HO_9.out (x13_3 : Int) (rdOf false t507 x13_3)
                       go_wp2_with (first | ((with_reducible refine gate_store (t := 4) (p := 73) rfl ?_); refine store_event (t := 4) (p := 73) (v := ?vo_w52) (w1 := (wr.setCell ⟨go47, (x13_3 : Int).toNat, none⟩ (.bool (rdOf false t507 x13_3)))) ?hg ?ho ?hn ?hr ?_; (case ho => rfl); (case hg => rfl); (case hn => rfl); (case hr => first | (go_simp; done) | (go_simp; rfl)); intro w52 hw; have hg : wr.grownBy w52 (some go47) := (by rw [hw]; exact HP51.2); have hp_ : Kd.R Kd.bool 4 w52 w.heap.size (fun k_ => some k_ ≠ (.slice (some ad506) x7_1.length co29 : Value).ownBlock ∧ some k_ ≠ (.slice (some ad513) t507.length co49 : Value).ownBlock) (.slice (some ⟨go47, 0, none⟩) x9_3.length co50) y514 := (by rw [hw, Ny514.out]; exact HP51.1); clear HP51; have n0_ := K1 (Kd.R_after (v := (.slice (some ⟨go47, 0, none⟩) x9_3.length co50)) (v1 := (.slice (some ⟨go47, 0, none⟩) x9_3.length co50)) (ok := (fun k_ => some k_ ≠ (.slice (some ad513) t507.length co49 : Value).ownBlock)) (by (with_reducible repeat (first | apply Kd.R_alloc | apply Kd.R_drewN | apply Kd.R_drew)); exact Kd.R_mono HO_7.out (fun _ hk => ⟨hk.2, hk.1⟩)) hg (.inl rfl)); have n1_ := K1 (hp_); have n2_ := K1 (Kd.R_after (v := (.slice (some ⟨go47, 0, none⟩) x9_3.length co50)) (v1 := (.slice (some ⟨go47, 0, none⟩) x9_3.length co50)) (ok := (fun k_ => some k_ ≠ (.slice (some ad506) x7_1.length co29 : Value).ownBlock)) (mV HO_12.out) hg (.inl rfl)); have n3_ := K1 (blk_grown (mU BK497.out) hg (Kd.R_ne HO_9.out BK497.out (by decide))); have n4_ := K1 ((by rw [hw]; exact below_set (HB.out) GB47.out : Below w.heap.size w w52)); clear HO_7; clear HO_9; clear HO_12; clear BK497; clear HB; have HO_7 := n0_; have HO_9 := n1_; have HO_12 := n2_; have BK497 := n3_; have HB := n4_; clear n0_ n1_ n2_ n3_ n4_; clear hg hw hp_))
                       go_roundg k3
                       case measure => have := HK1.out; have := HK2.out; have := HK3.out; omega
                       case rel => exact ⟨(y514), (true), (wrap64 (x13_3 + 1)), (mF), (mF), H', ⟨by have := HK1.out; have := HK2.out; have := HK3.out; omega⟩, ⟨by (with_reducible repeat (first | apply Kd.R_alloc | apply Kd.R_drewN | apply Kd.R_drew)); exact Kd.R_mono HO_7.out (fun _ hk => ⟨hk.2, hk.1⟩)⟩, ⟨mV HO_9.out⟩, ⟨mV HO_12.out⟩, ⟨mU BK497.out⟩, ⟨mB⟩⟩
                      ·replace c48 := Bool.eq_false_iff.mpr c48
                       subst c48
                       have H1 : (rotaref08_Depth.l2 k3 x7_1 x8_1 y514 (rdOf false t507 x13_3) x11_2 t507 (wrap64 (x13_3 + 1)) l0_0 l0_1 l0_2) = some (r1, r2) := by rw [if_neg (show ¬ (false = true) by decide)] at H; exact H
                       clear H
                       have H := H1
                       clear H1
                       have H' := K1 H
                       clear H
                       obtain ⟨Ao53, co53, eo53⟩ := Kd.R_slice HO_12.out
                       subst eo53
                       obtain ⟨Ao54, co54, eo54⟩ := Kd.R_slice HO_9.out
                       subst eo54
                       have p510 : 0 ≤ (x13_3 : Int) := of_decide_eq_true (mA)
                       have q510 : x13_3 < (x9_3.length : Int) := of_decide_eq_true (mA)
                       obtain ⟨ad510, e510, hx510_0⟩ := Kd.at_bool (Kd.R_reads' HO_9.out).2.2 x13_3 p510 q510
                       (try rw [← Nbq26.out] at hx510_0)
                       (try rw [← Nbq35.out] at hx510_0)
                       cases e510
                       replace p510 := eq_true p510
                       replace q510 := eq_true q510
                       have p513 : 0 ≤ (x13_3 : Int) := of_decide_eq_true (mA)
                       have q513 : x13_3 < (t507.length : Int) := of_decide_eq_true (mA)
                       obtain ⟨ad513, e513, hx513_0⟩ := Kd.at_bool (Kd.R_reads' HO_12.out).2.2 x13_3 p513 q513
                       (try rw [← Nbq26.out] at hx513_0)
                       (try rw [← Nbq35.out] at hx513_0)
                       cases e513
                       replace p513 := eq_true p513
                       replace q513 := eq_true q513
                       have p47 : 0 ≤ (x13_3 : Int) := of_decide_eq_true (mA)
                       have q47 : (x13_3 : Int) < ((x9_3.length : Int) : Int) := of_decide_eq_true (mA)
                       obtain ⟨go47, co47, eo47, gb47, gl47, cl47, HG47⟩ := Kd.R_form HO_9.out (by omega)
                       (first | cases eo47 | (injection eo47 with ea_ en_ ec_; (first | subst ea_ | (injection ea_ with ea_; subst ea_)); subst ec_; clear en_))
                       have GB47 := K1 gb47
                       have GG47 := K1 HG47
                       clear gb47 gl47 HG47
                       (first | simp only [add_plain] at hx510_0 | skip)
                       obtain ⟨hx47_0, hf47_0⟩ := Kd.R_celln false HO_9.out (x13_3 : Int) p47 q47
                       replace p47 := eq_true p47
                       replace q47 := eq_true q47
                       have HP55 := Kd.R_putg HO_9.out (x13_3 : Int) (rdOf false t507 x13_3)
                       go_wp2_with (first | ((with_reducible refine gate_store (t := 4) (p := 73) rfl ?_); refine store_event (t := 4) (p := 73) (v := ?vo_w56) (w1 := (wr.setCell ⟨go47, (x13_3 : Int).toNat, none⟩ (.bool (rdOf false t507 x13_3)))) ?hg ?ho ?hn ?hr ?_; (case ho => rfl); (case hg => rfl); (case hn => rfl); (case hr => first | (go_simp; done) | (go_simp; rfl)); intro w56 hw; have hg : wr.grownBy w56 (some go47) := (by rw [hw]; exact HP55.2); have hp_ : Kd.R Kd.bool 4 w56 w.heap.size (fun k_ => some k_ ≠ (.slice (some ad506) x7_1.length co29 : Value).ownBlock ∧ some k_ ≠ (.slice (some ad513) t507.length co53 : Value).ownBlock) (.slice (some ⟨go47, 0, none⟩) x9_3.length co54) y514 := (by rw [hw, Ny514.out]; exact HP55.1); clear HP55; have n0_ := K1 (Kd.R_after (v := (.slice (some ⟨go47, 0, none⟩) x9_3.length co54)) (v1 := (.slice (some ⟨go47, 0, none⟩) x9_3.length co54)) (ok := (fun k_ => some k_ ≠ (.slice (some ad513) t507.length co53 : Value).ownBlock)) (by (with_reducible repeat (first | apply Kd.R_alloc | apply Kd.R_drewN | apply Kd.R_drew)); exact Kd.R_mono HO_7.out (fun _ hk => ⟨hk.2, hk.1⟩)) hg (.inl rfl)); have n1_ := K1 (hp_); have n2_ := K1 (Kd.R_after (v := (.slice (some ⟨go47, 0, none⟩) x9_3.length co54)) (v1 := (.slice (some ⟨go47, 0, none⟩) x9_3.length co54)) (ok := (fun k_ => some k_ ≠ (.slice (some ad506) x7_1.length co29 : Value).ownBlock)) (mV HO_12.out) hg (.inl rfl)); have n3_ := K1 (blk_grown (mU BK497.out) hg (Kd.R_ne HO_9.out BK497.out (by decide))); have n4_ := K1 ((by rw [hw]; exact below_set (HB.out) GB47.out : Below w.heap.size w w56)); clear HO_7; clear HO_9; clear HO_12; clear BK497; clear HB; have HO_7 := n0_; have HO_9 := n1_; have HO_12 := n2_; have BK497 := n3_; have HB := n4_; clear n0_ n1_ n2_ n3_ n4_; clear hg hw hp_; have p515 : 0 ≤ (x13_3 : Int) := of_decide_eq_true (mA); have q515 : x13_3 < (t507.length : Int) := of_decide_eq_true (mA); obtain ⟨ad515, e515, hx515_0⟩ := Kd.at_bool (Kd.R_reads' HO_12.out).2.2 x13_3 p515 q515; (try rw [← Nbq26.out] at hx515_0); (try rw [← Nbq35.out] at hx515_0); obtain rfl : ad513 = ad515 := (by injection e515); replace p515 := eq_true p515; replace q515 := eq_true q515))
                       go_roundg k3
                       case measure => have := HK1.out; have := HK2.out; have := HK3.out; omega
                       case rel => exact ⟨(y514), (rdOf false t507 x13_3), (wrap64 (x13_3 + 1)), (mF), (mF), H', ⟨by have := HK1.out; have := HK2.out; have := HK3.out; omega⟩, ⟨by (with_reducible repeat (first | apply Kd.R_alloc | apply Kd.R_drewN | apply Kd.R_drew)); exact Kd.R_mono HO_7.out (fun _ hk => ⟨hk.2, hk.1⟩)⟩, ⟨mV HO_9.out⟩, ⟨mV HO_12.out⟩, ⟨mU BK497.out⟩, ⟨mB⟩⟩
                    ·rw [if_neg c34] at H
                     exact absurd H (by simp)
                   ·rw [if_neg c33] at H
                    exact absurd H (by simp)
                  ·rw [if_neg c32] at H
                   have c32b0 : decide (x13_3 < (t507.length : Int)) = false := decide_eq_false c32
                   clear c32
                   have H' := K1 H
                   clear H
                   obtain ⟨Ao57, co57, eo57⟩ := Kd.R_slice HO_12.out
                   subst eo57
                   go_wp2
                   go_roundg k3
                   case measure => have := HK1.out; have := HK2.out; have := HK3.out; omega
                   case rel => exact ⟨(x9_3), (x10_3), (wrap64 (x11_2 + 1)), (mF), (mF), H', ⟨by have := HK1.out; have := HK2.out; have := HK3.out; omega⟩, ⟨by (with_reducible repeat (first | apply Kd.R_alloc | apply Kd.R_drewN | apply Kd.R_drew)); exact Kd.R_mono HO_7.out (fun _ hk => hk.1)⟩, ⟨by (with_reducible repeat (first | apply Kd.R_alloc | apply Kd.R_drewN | apply Kd.R_drew)); exact Kd.R_mono HO_9.out (fun _ hk => hk.1)⟩, ⟨mU BK497.out⟩, ⟨mB⟩⟩
               ·replace c27 := Bool.eq_false_iff.mpr c27
                subst c27
                have H1 : (rotaref08_Depth.l1 k2 x7_1 x8_1 x9_2 x10_2 (wrap64 (x11_2 + 1)) l0_0 l0_1 l0_2) = some (r1, r2) := by rw [if_neg (show ¬ (false = true) by decide)] at H; exact H
                clear H
                have H := H1
                clear H1
                have H' := K1 H
                clear H
                obtain ⟨Ao58, co58, eo58⟩ := Kd.R_slice HO_7.out
                subst eo58
                have p506 : 0 ≤ (x11_2 : Int) := of_decide_eq_true (mA)
                have q506 : x11_2 < (x7_1.length : Int) := of_decide_eq_true (mA)
                obtain ⟨ad506, e506, hx506_0⟩ := Kd.at_bool (Kd.R_reads' HO_7.out).2.2 x11_2 p506 q506
                (try rw [← Nbq26.out] at hx506_0)
                cases e506
                replace p506 := eq_true p506
                replace q506 := eq_true q506
                go_wp2
                go_roundg k2
                case measure => have := HK1.out; have := HK2.out; omega
                case rel => exact ⟨(x9_2), (x10_2), (wrap64 (x11_2 + 1)), (mF), (mF), H', ⟨by have := HK1.out; have := HK2.out; omega⟩, ⟨mV HO_7.out⟩, ⟨mV HO_9.out⟩, ⟨mU BK497.out⟩, ⟨mB⟩⟩
              ·rw [if_neg c25] at H
               exact absurd H (by simp)
             ·rw [if_neg c24] at H
              have c24b0 : decide (x11_2 < (x7_1.length : Int)) = false := decide_eq_false c24
              clear c24
              by_cases c59 : x10_2 = true
              ·subst c59
               have H1 : (rotaref08_Depth.l0 k2 x9_2 (wrap64 (x8_1 + 1)) l0_0 l0_1 l0_2) = some (r1, r2) := by rw [if_pos rfl] at H; exact H
               clear H
               have H := H1
               clear H1
               have H' := K1 H
               clear H
               obtain ⟨Ao60, co60, eo60⟩ := Kd.R_slice HO_7.out
               subst eo60
               go_wp2
               go_roundg k2
               case measure => have := HK1.out; have := HK2.out; omega
               case rel => exact ⟨(x9_2), (wrap64 (x8_1 + 1)), (mF), H', ⟨by have := HK1.out; have := HK2.out; omega⟩, ⟨by (with_reducible repeat (first | apply Kd.R_alloc | apply Kd.R_drewN | apply Kd.R_drew)); exact Kd.R_mono HO_9.out (fun _ hk => trivial)⟩, ⟨mU BK497.out⟩, ⟨mB⟩⟩
              ·replace c59 := Bool.eq_false_iff.mpr c59
               subst c59
               have H1 : (some (x8_1, 0)) = some (r1, r2) := by rw [if_neg (show ¬ (false = true) by decide)] at H; exact H
               clear H
               have H := H1
               clear H1
               simp only [Option.some.injEq, Prod.mk.injEq] at H
               obtain ⟨rfl, rfl⟩ := H
               obtain ⟨Ao61, co61, eo61⟩ := Kd.R_slice HO_7.out
               subst eo61
               go_wp2
               go_ret2
               exact ⟨mE, mB⟩
          ·rw [if_neg c20] at H
           exact absurd H (by simp)
         ·rw [if_neg c19] at H
          exact absurd H (by simp)
        ·rw [if_neg c18] at H
         have c18b0 : decide (x8_1 ≤ (l0_1.length : Int)) = false := decide_eq_false c18
         clear c18
         simp only [Option.some.injEq, Prod.mk.injEq] at H
         obtain ⟨rfl, rfl⟩ := H
         obtain ⟨hcz62_0, hcz62_1, hcz62_2, hfz62_0, hfz62_1, hfz62_2⟩ := cf3 BK497
         go_wp2
         go_ret2
         exact ⟨mE, mB⟩
     ·rw [if_neg c8] at H
      exact absurd H (by simp)
    ·rw [if_neg c7] at H
     exact absurd H (by simp)
   ·rw [if_neg c6] at H
    exact absurd H (by simp)
  ·rw [if_neg c5] at H
   exact absurd H (by simp)
 ·rw [if_neg c4] at H
  have c4b0 : (t498 == 0) = false := beq_eq_false_iff_ne.mpr c4
  have c4b1 : (t498 != 0) = true := bne_iff_ne.mpr c4
  simp only [Option.some.injEq, Prod.mk.injEq] at H
  obtain ⟨rfl, rfl⟩ := H
  go_enter Try.func26, Try.ntmps26
  go_wp2_with (first | ((with_reducible refine gate_dst (N := 2) rfl ?_); refine bev (N := 2) (cs := #[.slice A0_0 l0_0.length c0_0, .slice A0_1 l0_1.length c0_1, .slice A0_2 l0_2.length c0_2]) (t := 26) (h := ?_); intro gb497 hg w63 hbox hb; have BK497 := K1 (hbox); have GW497 := K1 (mG : w.heap.size ≤ gb497); have GE497 := K1 (mG : w.heap.size ≤ gb497); replace HB := K1 (below_step mB hb); clear hb hbox hg; obtain ⟨hcz64_0, hcz64_1, hcz64_2, hfz64_0, hfz64_1, hfz64_2⟩ := cf3 BK497) | ((with_reducible refine gate_callee (f := 37) rfl ?_); refine goesL_ (some 19) rfl rfl Try.func37 (by kernel_rfl) rfl #[.agg #[.slice A0_0 l0_0.length c0_0, .slice A0_1 l0_1.length c0_1, .slice A0_2 l0_2.length c0_2], .int .i64 a1, .int .i64 (l0_1.length : Int)] rfl mL ?_; (with_reducible refine (rotaref08_looked.calls k _ _ l0_0 _ _ l0_1 _ _ l0_2 a1 (l0_1.length : Int) t498 _ ?side1 ?side2 ?side3 ?side4 ?side5 ?side6 A3.out).mono ?_); (case side1 => exact mC); (case side2 => exact HC0_0.out); (case side3 => exact mC); (case side4 => exact HC0_1.out); (case side5 => exact mC); (case side6 => exact HC0_2.out); rintro e w65 ⟨rfl, hb⟩; refine ⟨_, rfl, ?_⟩; replace BK497 := K1 (blk_below (mU BK497.out) hb); replace HB := K1 (below_step mB hb); (try clear hb)))
  go_ret2
  exact ⟨mE, mB⟩

end Go.Proofs.Ytdlikjfffdpmiaa.QProper

/- Printed: a function's machine side. Conditions: none. -/
import Derived.Test.YtdlikjfffdpmiaaQProperx0
import Derived.Test.YtdlikjfffdpmiaaQProperx31
namespace Go.Proofs.Ytdlikjfffdpmiaa.QProper
open Go.RowKit Go.Proofs.YtdlikjfffdpmiaaW.PrintWords Go.Proofs.YtdlikjfffdpmiaaW.PrintLast Go.Proofs.YtdlikjfffdpmiaaW.PrintMore
set_option linter.unusedVariables false
set_option linter.unusedSimpArgs false

/-! ### rotaref08_reach: function 44 -/
mutual
def rotaref08_reach.l0 : Nat → Int → List Bool → Bool → List Int → List (S34) → List (S58) → Option (List Bool)
 | 0, _, _, _, _, _, _ => none
 | k + 1, x1, x5, x6, x306000, x306001, x306002 => if x6 = true then (if 0 ≤ x1 then (if x1 < (x306001.length : Int) then (rotaref08_reach.l1 k x1 x5 false ((rd_T34 x306001 x1).f0) x306000 x306001 x306002) else (none)) else (none)) else (some x5)
def rotaref08_reach.l1 : Nat → Int → List Bool → Bool → Int → List Int → List (S34) → List (S58) → Option (List Bool)
 | 0, _, _, _, _, _, _, _ => none
 | k + 1, x1, x5, x6, x7, x306000, x306001, x306002 => if 0 ≤ x1 then (if x1 < (x306001.length : Int) then (if x7 < ((rd_T34 x306001 x1).f1) then (if 0 ≤ x7 then (if x7 < (x5.length : Int) then (if rdOf false x5 x7 = true then ((rotaref08_next.f k x306000 x306001 x306002 x7).bind fun t314 => (rotaref08_reach.l2 k x1 x5 x6 x7 t314 0 x306000 x306001 x306002)) else (rotaref08_reach.l1 k x1 x5 x6 (wrap64 (x7 + 1)) x306000 x306001 x306002)) else (none)) else (none)) else (rotaref08_reach.l0 k x1 x5 x6 x306000 x306001 x306002)) else (none)) else (none)
def rotaref08_reach.l2 : Nat → Int → List Bool → Bool → Int → List Int → Int → List Int → List (S34) → List (S58) → Option (List Bool)
 | 0, _, _, _, _, _, _, _, _, _ => none
 | k + 1, x1, x5, x6, x7, x8, x9, x306000, x306001, x306002 => if x9 < (x8.length : Int) then (if x6 = true then (if 0 ≤ x9 then (if 0 ≤ (rd x8 x9) then (if (rd x8 x9) < (x5.length : Int) then (rotaref08_reach.l2 k x1 (x5.set ((rd x8 x9) : Int).toNat true) true x7 x8 (wrap64 (x9 + 1)) x306000 x306001 x306002) else (none)) else (none)) else (none)) else (if 0 ≤ x9 then (if 0 ≤ (rd x8 x9) then (if (rd x8 x9) < (x5.length : Int) then (rotaref08_reach.l2 k x1 (x5.set ((rd x8 x9) : Int).toNat true) (!(rdOf false x5 (rd x8 x9))) x7 x8 (wrap64 (x9 + 1)) x306000 x306001 x306002) else (none)) else (none)) else (none))) else (rotaref08_reach.l1 k x1 x5 x6 (wrap64 (x7 + 1)) x306000 x306001 x306002)
end
def rotaref08_reach.f (k : Nat) (l0_0 : List Int) (l0_1 : List (S34)) (l0_2 : List (S58)) (a1 : Int) : Option (List Bool) := if 0 ≤ (l0_0.length : Int) then (if ((l0_0.length : Int) : Int).toNat ≤ 281474976710656 then ((some (List.replicate ((l0_0.length : Int) : Int).toNat false : List Bool)).bind fun y306 => (if 0 ≤ a1 then (if a1 < (l0_1.length : Int) then (if 0 ≤ ((rd_T34 l0_1 a1).f0) then (if ((rd_T34 l0_1 a1).f0) < (y306.length : Int) then (rotaref08_reach.l0 k a1 (y306.set (((rd_T34 l0_1 a1).f0) : Int).toNat true) true l0_0 l0_1 l0_2) else (none)) else (none)) else (none)) else (none))) else (none)) else (none)
theorem rotaref08_reach.mono_l : ∀ k, (∀ y0 y1 y2 y3 y4 y5, LeO (rotaref08_reach.l0 k y0 y1 y2 y3 y4 y5) (rotaref08_reach.l0 (k + 1) y0 y1 y2 y3 y4 y5)) ∧ (∀ y0 y1 y2 y3 y4 y5 y6, LeO (rotaref08_reach.l1 k y0 y1 y2 y3 y4 y5 y6) (rotaref08_reach.l1 (k + 1) y0 y1 y2 y3 y4 y5 y6)) ∧ (∀ y0 y1 y2 y3 y4 y5 y6 y7 y8, LeO (rotaref08_reach.l2 k y0 y1 y2 y3 y4 y5 y6 y7 y8) (rotaref08_reach.l2 (k + 1) y0 y1 y2 y3 y4 y5 y6 y7 y8))
 | 0 => ⟨fun _ _ _ _ _ _ r h => by simp [rotaref08_reach.l0] at h, fun _ _ _ _ _ _ _ r h => by simp [rotaref08_reach.l1] at h, fun _ _ _ _ _ _ _ _ _ r h => by simp [rotaref08_reach.l2] at h⟩
 | k + 1 => by
  obtain ⟨ih0, ih1, ih2⟩ := rotaref08_reach.mono_l k
  refine ⟨?_, ?_, ?_⟩
  ·intro y0 y1 y2 y3 y4 y5
   unfold rotaref08_reach.l0
   repeat' first
   | (with_reducible exact ih0 _ _ _ _ _ _)
   | (with_reducible exact ih1 _ _ _ _ _ _ _)
   | (with_reducible exact ih2 _ _ _ _ _ _ _ _ _)
   | (with_reducible exact rotaref08_next.mono _ _ _ _ _)
   | (with_reducible exact LeO.refl _)
   | (with_reducible exact LeO.none _)
   | (with_reducible refine LeO.ite ?_ ?_)
   | (with_reducible refine LeO.bind ?_ (fun _ => ?_))
   | exact ih0 _ _ _ _ _ _
   | exact ih1 _ _ _ _ _ _ _
   | exact ih2 _ _ _ _ _ _ _ _ _
   | exact rotaref08_next.mono _ _ _ _ _
   | exact LeO.none _
   | refine LeO.ite ?_ ?_
   | refine LeO.bind ?_ (fun _ => ?_)
  ·intro y0 y1 y2 y3 y4 y5 y6
   unfold rotaref08_reach.l1
   repeat' first
   | (with_reducible exact ih0 _ _ _ _ _ _)
   | (with_reducible exact ih1 _ _ _ _ _ _ _)
   | (with_reducible exact ih2 _ _ _ _ _ _ _ _ _)
   | (with_reducible exact rotaref08_next.mono _ _ _ _ _)
   | (with_reducible exact LeO.refl _)
   | (with_reducible exact LeO.none _)
   | (with_reducible refine LeO.ite ?_ ?_)
   | (with_reducible refine LeO.bind ?_ (fun _ => ?_))
   | exact ih0 _ _ _ _ _ _
   | exact ih1 _ _ _ _ _ _ _
   | exact ih2 _ _ _ _ _ _ _ _ _
   | exact rotaref08_next.mono _ _ _ _ _
   | exact LeO.none _
   | refine LeO.ite ?_ ?_
   | refine LeO.bind ?_ (fun _ => ?_)
  ·intro y0 y1 y2 y3 y4 y5 y6 y7 y8
   unfold rotaref08_reach.l2
   repeat' first
   | (with_reducible exact ih0 _ _ _ _ _ _)
   | (with_reducible exact ih1 _ _ _ _ _ _ _)
   | (with_reducible exact ih2 _ _ _ _ _ _ _ _ _)
   | (with_reducible exact rotaref08_next.mono _ _ _ _ _)
   | (with_reducible exact LeO.refl _)
   | (with_reducible exact LeO.none _)
   | (with_reducible refine LeO.ite ?_ ?_)
   | (with_reducible refine LeO.bind ?_ (fun _ => ?_))
   | exact ih0 _ _ _ _ _ _
   | exact ih1 _ _ _ _ _ _ _
   | exact ih2 _ _ _ _ _ _ _ _ _
   | exact rotaref08_next.mono _ _ _ _ _
   | exact LeO.none _
   | refine LeO.ite ?_ ?_
   | refine LeO.bind ?_ (fun _ => ?_)
theorem rotaref08_reach.mono : ∀ a0 a1 a2 a3 k, LeO (rotaref08_reach.f k a0 a1 a2 a3) (rotaref08_reach.f (k + 1) a0 a1 a2 a3) := by
 intro a0 a1 a2 a3 k
 obtain ⟨ih0, ih1, ih2⟩ := rotaref08_reach.mono_l k
 unfold rotaref08_reach.f
 repeat' first
   | (with_reducible exact ih0 _ _ _ _ _ _)
   | (with_reducible exact ih1 _ _ _ _ _ _ _)
   | (with_reducible exact ih2 _ _ _ _ _ _ _ _ _)
   | (with_reducible exact rotaref08_next.mono _ _ _ _ _)
   | (with_reducible exact LeO.refl _)
   | (with_reducible exact LeO.none _)
   | (with_reducible refine LeO.ite ?_ ?_)
   | (with_reducible refine LeO.bind ?_ (fun _ => ?_))
   | exact ih0 _ _ _ _ _ _
   | exact ih1 _ _ _ _ _ _ _
   | exact ih2 _ _ _ _ _ _ _ _ _
   | exact rotaref08_next.mono _ _ _ _ _
   | exact LeO.none _
   | refine LeO.ite ?_ ?_
   | refine LeO.bind ?_ (fun _ => ?_)
set_option maxHeartbeats 8000000 in
set_option maxRecDepth 100000 in
theorem rotaref08_reach.calls (k : Nat) (A0_0 : Option Addr) (c0_0 : Nat) (l0_0 : List Int) (A0_1 : Option Addr) (c0_1 : Nat) (l0_1 : List (S34)) (A0_2 : Option Addr) (c0_2 : Nat) (l0_2 : List (S58)) (a1 : Int) (r : List Bool) (w : World) (hr0_0 : Kd.C (Kd.int .u32) w A0_0 l0_0.length l0_0) (hc0_0 : l0_0.length ≤ c0_0) (hr0_1 : Kd.C k34 w A0_1 l0_1.length l0_1) (hc0_1 : l0_1.length ≤ c0_1) (hr0_2 : Kd.C k58 w A0_2 l0_2.length l0_2) (hc0_2 : l0_2.length ≤ c0_2) (h : rotaref08_reach.f k l0_0 l0_1 l0_2 a1 = some r) :
  Calls Try.prog 44 #[.agg #[.slice A0_0 l0_0.length c0_0, .slice A0_1 l0_1.length c0_1, .slice A0_2 l0_2.length c0_2], .int .i64 a1] w fun e w' => ∃ v0_ : Value, e = .returned (v0_) ∧ Kd.R Kd.bool 4 w' w.heap.size (fun _ => True) v0_ r ∧ Below w.heap.size w w' := by
 have hu26 := Try.underlying26
 have HR0_0 := K1 hr0_0
 have HC0_0 := K1 hc0_0
 clear hr0_0 hc0_0
 have HR0_1 := K1 hr0_1
 have HC0_1 := K1 hc0_1
 clear hr0_1 hc0_1
 have HR0_2 := K1 hr0_2
 have HC0_2 := K1 hc0_2
 clear hr0_2 hc0_2
 have HB := K1 (Below.refl w.heap.size w)
 have H : (if 0 ≤ (l0_0.length : Int) then (if ((l0_0.length : Int) : Int).toNat ≤ 281474976710656 then ((some (List.replicate ((l0_0.length : Int) : Int).toNat false : List Bool)).bind fun y306 => (if 0 ≤ a1 then (if a1 < (l0_1.length : Int) then (if 0 ≤ ((rd_T34 l0_1 a1).f0) then (if ((rd_T34 l0_1 a1).f0) < (y306.length : Int) then (rotaref08_reach.l0 k a1 (y306.set (((rd_T34 l0_1 a1).f0) : Int).toNat true) true l0_0 l0_1 l0_2) else (none)) else (none)) else (none)) else (none))) else (none)) else (none)) = some r := h
 clear h
 by_cases c3 : 0 ≤ (l0_0.length : Int)
 ·rw [if_pos c3] at H
  have c3b0 := eq_true c3
  have c3b1 : decide (0 ≤ (l0_0.length : Int)) = true := decide_eq_true c3
  clear c3
  by_cases c4 : ((l0_0.length : Int) : Int).toNat ≤ 281474976710656
  ·rw [if_pos c4] at H
   have c4b0 := eq_true c4
   have c4b1 : decide (((l0_0.length : Int) : Int).toNat ≤ 281474976710656) = true := decide_eq_true c4
   clear c4
   obtain ⟨y306, hy306⟩ : ∃ y_ : List Bool, y_ = (List.replicate ((l0_0.length : Int) : Int).toNat false) := ⟨_, rfl⟩
   replace H : (if 0 ≤ a1 then (if a1 < (l0_1.length : Int) then (if 0 ≤ ((rd_T34 l0_1 a1).f0) then (if ((rd_T34 l0_1 a1).f0) < (y306.length : Int) then (rotaref08_reach.l0 k a1 (y306.set (((rd_T34 l0_1 a1).f0) : Int).toNat true) true l0_0 l0_1 l0_2) else (none)) else (none)) else (none)) else (none)) = some r := by first | (rw [hy306]; with_reducible exact H) | (have H2_ := (Option.bind_some _ _).symm.trans H; rw [hy306]; with_reducible exact H2_) | (have H2_ := (Option.bind_some _ _).symm.trans H; with_reducible exact H2_) | with_reducible exact H | (rw [hy306]; exact H) | exact H
   have Ny306 := K1 hy306
   clear hy306
   by_cases c5 : 0 ≤ a1
   ·rw [if_pos c5] at H
    have c5b0 : decide (0 ≤ a1) = true := decide_eq_true c5
    clear c5
    by_cases c6 : a1 < (l0_1.length : Int)
    ·rw [if_pos c6] at H
     have c6b0 : decide (a1 < (l0_1.length : Int)) = true := decide_eq_true c6
     clear c6
     by_cases c7 : 0 ≤ ((rd_T34 l0_1 a1).f0)
     ·rw [if_pos c7] at H
      have c7b0 : decide (0 ≤ ((rd_T34 l0_1 a1).f0)) = true := decide_eq_true c7
      clear c7
      by_cases c8 : ((rd_T34 l0_1 a1).f0) < (y306.length : Int)
      ·rw [if_pos c8] at H
       have c8b0 : decide (((rd_T34 l0_1 a1).f0) < (y306.length : Int)) = true := decide_eq_true c8
       clear c8
       obtain ⟨y310, hy310⟩ : ∃ y_ : List Bool, y_ = (y306.set (((rd_T34 l0_1 a1).f0) : Int).toNat true) := ⟨_, rfl⟩
       replace H : (rotaref08_reach.l0 k a1 y310 true l0_0 l0_1 l0_2) = some r := by first | (rw [hy310]; with_reducible exact H) | (have H2_ := (Option.bind_some _ _).symm.trans H; rw [hy310]; with_reducible exact H2_) | (have H2_ := (Option.bind_some _ _).symm.trans H; with_reducible exact H2_) | with_reducible exact H | (rw [hy310]; exact H) | exact H
       have Ny310 := K1 hy310
       clear hy310
       have H' := K1 H
       clear H
       go_enter Try.func44, Try.ntmps44
       go_wp2_with (first | ((with_reducible refine gate_dst (N := 2) rfl ?_); refine bev (N := 2) (cs := #[.slice A0_0 l0_0.length c0_0, .slice A0_1 l0_1.length c0_1, .slice A0_2 l0_2.length c0_2]) (t := 26) (h := ?_); intro gb305 hg w10 hbox hb; have BK305 := K1 (hbox); have GW305 := K1 (mG : w.heap.size ≤ gb305); have GE305 := K1 (mG : w.heap.size ≤ gb305); replace HB := K1 (below_step mB hb); clear hb hbox hg; obtain ⟨hcz11_0, hcz11_1, hcz11_2, hfz11_0, hfz11_1, hfz11_2⟩ := cf3 BK305) | ((with_reducible refine gate_dst (N := 13) rfl ?_); refine Kd.R_make Kd.bool _ 4 rfl (N := 13) rfl 67 _ _ rfl (l0_0.length : Int) rfl rfl Try.underlying67 (.bool false) 1 info4 rfl (by decide) (by omega) false (ok := fun _ => True) (okp := fun _ => True) rfl (fun _ hk => hk) trivial (of_decide_eq_true (mA)) (Nat.le_trans (Nat.mul_le_mul_right _ (of_decide_eq_true (mA) : (l0_0.length : Int).toNat ≤ 281474976710656)) (by omega)) (Below.refl _ _) (Nat.le_refl _) ?_; intro v307 w12 ho13 hb hg_ hnew_; clear hg_ hnew_; (first | rw [← Ny306.out] at ho13 | (simp only [Int.reduceToNat] at ho13; rw [← Ny306.out] at ho13)); have HO308 := K1 (Kd.R_lower ho13 (below_size mB)); replace BK305 := K1 (blk_below (mU BK305.out) hb); replace HB := K1 (below_step mB hb); clear hb ho13; obtain ⟨hcz14_0, hcz14_1, hcz14_2, hfz14_0, hfz14_1, hfz14_2⟩ := cf3 BK305; have p309 : 0 ≤ (a1 : Int) := of_decide_eq_true (mA); have q309 : a1 < (l0_1.length : Int) := of_decide_eq_true (mA); obtain ⟨ad309, e309, hx309_0, hx309_1⟩ := at_T34 HR0_1.out a1 p309 q309; cases e309; replace hx309_0 := (HB.out.cell (World.block_lt_of_cell? w _ hx309_0)).trans hx309_0; replace hx309_1 := (HB.out.cell (World.block_lt_of_cell? w _ hx309_1)).trans hx309_1; replace p309 := eq_true p309; replace q309 := eq_true q309; have p9 : 0 ≤ (((rd_T34 l0_1 a1).f0) : Int) := of_decide_eq_true (mA); have q9 : (((rd_T34 l0_1 a1).f0) : Int) < ((y306.length : Int) : Int) := of_decide_eq_true (mA); obtain ⟨go9, co9, eo9, gb9, gl9, cl9, HG9⟩ := Kd.R_form HO308.out (by omega); (first | cases eo9 | (injection eo9 with ea_ en_ ec_; (first | subst ea_ | (injection ea_ with ea_; subst ea_)); subst ec_; clear en_)); have GB9 := K1 gb9; have GG9 := K1 HG9; clear gb9 gl9 HG9; obtain ⟨hx9_0, hf9_0⟩ := Kd.R_celln false HO308.out (((rd_T34 l0_1 a1).f0) : Int) p9 q9; replace p9 := eq_true p9; replace q9 := eq_true q9; obtain ⟨hy15_, hz15_⟩ := Kd.R_celln false HO308.out (((rd_T34 l0_1 a1).f0) : Int) (of_decide_eq_true (mA)) (of_decide_eq_true (mA)); have HP15 := Kd.R_putg HO308.out (((rd_T34 l0_1 a1).f0) : Int) true) | ((with_reducible refine gate_store (t := 4) (p := 21) rfl ?_); refine store_event (t := 4) (p := 21) (v := ?vo_w16) (w1 := (w12.setCell ⟨go9, (((rd_T34 l0_1 a1).f0) : Int).toNat, none⟩ (.bool true))) ?hg ?ho ?hn ?hr ?_; (case ho => rfl); (case hg => rfl); (case hn => rfl); (case hr => first | (go_simp; done) | (go_simp; rfl)); intro w16 hw; have hg : w12.grownBy w16 (some go9) := (by rw [hw]; exact HP15.2); have hp_ : Kd.R Kd.bool 4 w16 w.heap.size (fun _ => True) (.slice (some ⟨go9, 0, none⟩) y306.length co9) y310 := (by rw [hw, Ny310.out]; exact HP15.1); clear HP15; replace BK305 := K1 (blk_grown (mU BK305.out) hg (Kd.R_ne HO308.out BK305.out (by decide))); replace HO308 := K1 (hp_); replace HB := K1 ((by rw [hw]; exact below_set (HB.out) GB9.out : Below w.heap.size w w16)); clear hg hw hp_))
       go_loopg [6] k (fun kq v6 w' => ∃ (x5_1 : List Bool) (x6_1 : Bool), v6 = .bool x6_1 ∧ Aside0 (rotaref08_reach.l0 kq a1 x5_1 x6_1 l0_0 l0_1 l0_2 = some r) ∧ Aside0 (kq ≤ k) ∧ Aside0 (Kd.R Kd.bool 4 w' w.heap.size (fun _ => True) (.slice (some ⟨go9, 0, none⟩) y306.length co9) x5_1) ∧ Aside0 (w'.heap[gb305]? = some (.cells #[(.slice A0_0 l0_0.length c0_0), (.slice (some ad309) l0_1.length c0_1), (.slice A0_2 l0_2.length c0_2)] 26 (0, 0))) ∧ Aside0 (Below w.heap.size w w'))
       case atStart => exact ⟨(y310), (true), (mF), H', ⟨Nat.le_refl _⟩, ⟨mV HO308.out⟩, ⟨mU BK305.out⟩, ⟨mB⟩⟩
       case round =>
        clear H' c3b0 c3b1 c4b0 c4b1 c5b0 c6b0 c7b0 c8b0 p9 q9 hcz11_0 hcz11_1 hcz11_2 hcz14_0 hcz14_1 hcz14_2 hfz11_0 hfz11_1 hfz11_2 hfz14_0 hfz14_1 hfz14_2 hx309_0 hx309_1 hx9_0 p309 q309
        obtain ⟨x5_1, x6_1, rfl, HA, HK1, HO_5, BK305, HB⟩ := hrel
        have hl5_1 := (Kd.R_reads' HO_5.out).1
        rw [hl5_1] at HO_5
        (try simp only [hl5_1])
        (try simp only [hl5_1] at BK305)
        cases gk with
        | zero => exact absurd HA.out (by simp [rotaref08_reach.l0])
        | succ k1 =>
         have H := HA.out
         clear HA
         simp only [rotaref08_reach.l0] at H
         by_cases c17 : x6_1 = true
         ·subst c17
          have H1 : (if 0 ≤ a1 then (if a1 < (l0_1.length : Int) then (rotaref08_reach.l1 k1 a1 x5_1 false ((rd_T34 l0_1 a1).f0) l0_0 l0_1 l0_2) else (none)) else (none)) = some r := by rw [if_pos rfl] at H; exact H
          clear H
          have H := H1
          clear H1
          by_cases c18 : 0 ≤ a1
          ·rw [if_pos c18] at H
           have c18b0 : decide (0 ≤ a1) = true := decide_eq_true c18
           clear c18
           by_cases c19 : a1 < (l0_1.length : Int)
           ·rw [if_pos c19] at H
            have c19b0 : decide (a1 < (l0_1.length : Int)) = true := decide_eq_true c19
            clear c19
            have H' := K1 H
            clear H
            obtain ⟨hcz20_0, hcz20_1, hcz20_2, hfz20_0, hfz20_1, hfz20_2⟩ := cf3 BK305
            have p311 : 0 ≤ (a1 : Int) := of_decide_eq_true (mA)
            have q311 : a1 < (l0_1.length : Int) := of_decide_eq_true (mA)
            obtain ⟨ad311, e311, hx311_0, hx311_1⟩ := at_T34 HR0_1.out a1 p311 q311
            obtain rfl : ad309 = ad311 := (by injection e311)
            replace hx311_0 := (HB.out.cell (World.block_lt_of_cell? w _ hx311_0)).trans hx311_0
            replace hx311_1 := (HB.out.cell (World.block_lt_of_cell? w _ hx311_1)).trans hx311_1
            replace p311 := eq_true p311
            replace q311 := eq_true q311
            go_wp2
            go_loopg [6, 7] k1 (fun kq v6 v7 w' => ∃ (x5_2 : List Bool) (x6_2 : Bool) (x7_2 : Int), v6 = .bool x6_2 ∧ v7 = .int .i64 x7_2 ∧ Aside0 (rotaref08_reach.l1 kq a1 x5_2 x6_2 x7_2 l0_0 l0_1 l0_2 = some r) ∧ Aside0 (kq ≤ k1) ∧ Aside0 (Kd.R Kd.bool 4 w' w.heap.size (fun _ => True) (.slice (some ⟨go9, 0, none⟩) x5_1.length co9) x5_2) ∧ Aside0 (w'.heap[gb305]? = some (.cells #[(.slice A0_0 l0_0.length c0_0), (.slice (some ad309) l0_1.length c0_1), (.slice A0_2 l0_2.length c0_2)] 26 (0, 0))) ∧ Aside0 (Below w.heap.size w w'))
            case atStart => exact ⟨(x5_1), (false), ((rd_T34 l0_1 a1).f0), (mF), (mF), H', ⟨Nat.le_refl _⟩, ⟨by (try simp only [hl5_1]); (with_reducible repeat (first | apply Kd.R_alloc | apply Kd.R_drewN | apply Kd.R_drew)); exact HO_5.out⟩, ⟨by (try simp only [hl5_1]); refine mU ?_; exact BK305.out⟩, ⟨mB⟩⟩
            case round =>
             clear H' c18b0 c19b0 hcz20_0 hcz20_1 hcz20_2 hfz20_0 hfz20_1 hfz20_2 hx311_0 hx311_1 p311 q311
             obtain ⟨x5_2, x6_2, x7_2, rfl, rfl, HA, HK2, HO_5, BK305, HB⟩ := hrel
             have hl5_2 := (Kd.R_reads' HO_5.out).1
             rw [hl5_2] at HO_5
             (try simp only [hl5_2])
             (try simp only [hl5_2] at BK305)
             cases gk with
             | zero => exact absurd HA.out (by simp [rotaref08_reach.l1])
             | succ k2 =>
              have H := HA.out
              clear HA
              simp only [rotaref08_reach.l1] at H
              by_cases c21 : 0 ≤ a1
              ·rw [if_pos c21] at H
               have c21b0 : decide (0 ≤ a1) = true := decide_eq_true c21
               clear c21
               by_cases c22 : a1 < (l0_1.length : Int)
               ·rw [if_pos c22] at H
                have c22b0 : decide (a1 < (l0_1.length : Int)) = true := decide_eq_true c22
                clear c22
                by_cases c23 : x7_2 < ((rd_T34 l0_1 a1).f1)
                ·rw [if_pos c23] at H
                 have c23b0 : decide (x7_2 < ((rd_T34 l0_1 a1).f1)) = true := decide_eq_true c23
                 clear c23
                 by_cases c24 : 0 ≤ x7_2
                 ·rw [if_pos c24] at H
                  have c24b0 : decide (0 ≤ x7_2) = true := decide_eq_true c24
                  clear c24
                  by_cases c25 : x7_2 < (x5_2.length : Int)
                  ·rw [if_pos c25] at H
                   have c25b0 : decide (x7_2 < (x5_2.length : Int)) = true := decide_eq_true c25
                   clear c25
                   obtain ⟨bq26, hbq26⟩ : ∃ b_ : Bool, b_ = (rdOf false x5_2 x7_2) := ⟨_, rfl⟩
                   replace H : (if bq26 = true then ((rotaref08_next.f k2 l0_0 l0_1 l0_2 x7_2).bind fun t314 => (rotaref08_reach.l2 k2 a1 x5_2 x6_2 x7_2 t314 0 l0_0 l0_1 l0_2)) else (rotaref08_reach.l1 k2 a1 x5_2 x6_2 (wrap64 (x7_2 + 1)) l0_0 l0_1 l0_2)) = some r := by rw [← hbq26] at H; exact H
                   have Nbq26 := K1 hbq26
                   clear hbq26
                   by_cases c27 : bq26 = true
                   ·subst c27
                    have H1 : ((rotaref08_next.f k2 l0_0 l0_1 l0_2 x7_2).bind fun t314 => (rotaref08_reach.l2 k2 a1 x5_2 x6_2 x7_2 t314 0 l0_0 l0_1 l0_2)) = some r := by rw [if_pos rfl] at H; exact H
                    clear H
                    have H := H1
                    clear H1
                    replace H := Option.bind_eq_some_iff.mp H
                    obtain ⟨t314, A280, H⟩ := H
                    replace H : (rotaref08_reach.l2 k2 a1 x5_2 x6_2 x7_2 t314 0 l0_0 l0_1 l0_2) = some r := H
                    have A28 := K1 A280
                    clear A280
                    have H' := K1 H
                    clear H
                    obtain ⟨hcz29_0, hcz29_1, hcz29_2, hfz29_0, hfz29_1, hfz29_2⟩ := cf3 BK305
                    have p312 : 0 ≤ (a1 : Int) := of_decide_eq_true (mA)
                    have q312 : a1 < (l0_1.length : Int) := of_decide_eq_true (mA)
                    obtain ⟨ad312, e312, hx312_0, hx312_1⟩ := at_T34 HR0_1.out a1 p312 q312
                    obtain rfl : ad309 = ad312 := (by injection e312)
                    replace hx312_0 := (HB.out.cell (World.block_lt_of_cell? w _ hx312_0)).trans hx312_0
                    replace hx312_1 := (HB.out.cell (World.block_lt_of_cell? w _ hx312_1)).trans hx312_1
                    replace p312 := eq_true p312
                    replace q312 := eq_true q312
                    have p313 : 0 ≤ (x7_2 : Int) := of_decide_eq_true (mA)
                    have q313 : x7_2 < (x5_2.length : Int) := of_decide_eq_true (mA)
                    obtain ⟨ad313, e313, hx313_0⟩ := Kd.at_bool (Kd.R_reads' HO_5.out).2.2 x7_2 p313 q313
                    (try rw [← Nbq26.out] at hx313_0)
                    obtain rfl : (⟨go9, 0, none⟩ : Addr) = ad313 := (by injection e313)
                    (first | simp only [add_plain] at hx313_0 | simp only [add_at] at hx313_0 | simp only [Addr.add, Nat.zero_add] at hx313_0 | skip)
                    replace p313 := eq_true p313
                    replace q313 := eq_true q313
                    go_wp2_with (first | ((with_reducible refine gate_callee (f := 40) rfl ?_); refine goesL_ (some 46) rfl rfl Try.func40 (by kernel_rfl) rfl #[.agg #[.slice A0_0 l0_0.length c0_0, .slice (some ad309) l0_1.length c0_1, .slice A0_2 l0_2.length c0_2], .int .i64 x7_2] rfl mL ?_; (with_reducible refine (rotaref08_next.calls k2 _ _ l0_0 _ _ l0_1 _ _ l0_2 x7_2 t314 _ ?side1 ?side2 ?side3 ?side4 ?side5 ?side6 A28.out).mono ?_); (case side1 => exact mC); (case side2 => exact HC0_0.out); (case side3 => exact mC); (case side4 => exact HC0_1.out); (case side5 => exact mC); (case side6 => exact HC0_2.out); rintro e w30 ⟨v315, rfl, ho0, hb⟩; refine ⟨_, rfl, ?_⟩; have HO316 := K1 (Kd.R_lower ho0 (below_size mB)); replace HO_5 := K1 (Kd.R_below (mV HO_5.out) hb); replace BK305 := K1 (blk_below (mU BK305.out) hb); replace HB := K1 (below_step mB hb); (try clear hb); (try clear ho0)))
                    go_loopg [6, 9] k2 (fun kq v6 v9 w' => ∃ (x5_3 : List Bool) (x6_3 : Bool) (x9_3 : Int), v6 = .bool x6_3 ∧ v9 = .int .i64 x9_3 ∧ Aside0 (rotaref08_reach.l2 kq a1 x5_3 x6_3 x7_2 t314 x9_3 l0_0 l0_1 l0_2 = some r) ∧ Aside0 (kq ≤ k2) ∧ Aside0 (Kd.R Kd.bool 4 w' w.heap.size (fun _ => True) (.slice (some ⟨go9, 0, none⟩) x5_2.length co9) x5_3) ∧ Aside0 (Kd.R (Kd.int .i64) 3 w' w.heap.size (fun _ => True) v315 t314) ∧ Aside0 (w'.heap[gb305]? = some (.cells #[(.slice A0_0 l0_0.length c0_0), (.slice (some ad309) l0_1.length c0_1), (.slice A0_2 l0_2.length c0_2)] 26 (0, 0))) ∧ Aside0 (Below w.heap.size w w'))
                    case atStart => exact ⟨(x5_2), (x6_2), (0), (mF), (mF), H', ⟨Nat.le_refl _⟩, ⟨by (try simp only [hl5_1]); (try simp only [hl5_2]); (with_reducible repeat (first | apply Kd.R_alloc | apply Kd.R_drewN | apply Kd.R_drew)); exact HO_5.out⟩, ⟨by (try simp only [hl5_1]); (try simp only [hl5_2]); (with_reducible repeat (first | apply Kd.R_alloc | apply Kd.R_drewN | apply Kd.R_drew)); exact HO316.out⟩, ⟨by (try simp only [hl5_1]); (try simp only [hl5_2]); refine mU ?_; exact BK305.out⟩, ⟨mB⟩⟩
                    case round =>
                     clear H' c21b0 c22b0 c23b0 c24b0 c25b0 hcz29_0 hcz29_1 hcz29_2 hfz29_0 hfz29_1 hfz29_2 hx312_0 hx312_1 hx313_0 p312 p313 q312 q313
                     obtain ⟨x5_3, x6_3, x9_3, rfl, rfl, HA, HK3, HO_5, HO_8, BK305, HB⟩ := hrel
                     have hl5_3 := (Kd.R_reads' HO_5.out).1
                     rw [hl5_3] at HO_5
                     (try simp only [hl5_3])
                     (try simp only [hl5_3] at BK305)
                     (try simp only [hl5_3] at HO_8)
                     cases gk with
                     | zero => exact absurd HA.out (by simp [rotaref08_reach.l2])
                     | succ k3 =>
                      have H := HA.out
                      clear HA
                      simp only [rotaref08_reach.l2] at H
                      by_cases c31 : x9_3 < (t314.length : Int)
                      ·rw [if_pos c31] at H
                       have c31b0 : decide (x9_3 < (t314.length : Int)) = true := decide_eq_true c31
                       clear c31
                       by_cases c32 : x6_3 = true
                       ·subst c32
                        have H1 : (if 0 ≤ x9_3 then (if 0 ≤ (rd t314 x9_3) then (if (rd t314 x9_3) < (x5_3.length : Int) then (rotaref08_reach.l2 k3 a1 (x5_3.set ((rd t314 x9_3) : Int).toNat true) true x7_2 t314 (wrap64 (x9_3 + 1)) l0_0 l0_1 l0_2) else (none)) else (none)) else (none)) = some r := by rw [if_pos rfl] at H; exact H
                        clear H
                        have H := H1
                        clear H1
                        by_cases c33 : 0 ≤ x9_3
                        ·rw [if_pos c33] at H
                         have c33b0 : decide (0 ≤ x9_3) = true := decide_eq_true c33
                         clear c33
                         by_cases c34 : 0 ≤ (rd t314 x9_3)
                         ·rw [if_pos c34] at H
                          have c34b0 : decide (0 ≤ (rd t314 x9_3)) = true := decide_eq_true c34
                          clear c34
                          by_cases c35 : (rd t314 x9_3) < (x5_3.length : Int)
                          ·rw [if_pos c35] at H
                           have c35b0 : decide ((rd t314 x9_3) < (x5_3.length : Int)) = true := decide_eq_true c35
                           clear c35
                           obtain ⟨y318, hy318⟩ : ∃ y_ : List Bool, y_ = (x5_3.set ((rd t314 x9_3) : Int).toNat true) := ⟨_, rfl⟩
                           replace H : (rotaref08_reach.l2 k3 a1 y318 true x7_2 t314 (wrap64 (x9_3 + 1)) l0_0 l0_1 l0_2) = some r := by first | (rw [hy318]; with_reducible exact H) | (have H2_ := (Option.bind_some _ _).symm.trans H; rw [hy318]; with_reducible exact H2_) | (have H2_ := (Option.bind_some _ _).symm.trans H; with_reducible exact H2_) | with_reducible exact H | (rw [hy318]; exact H) | exact H
                           have Ny318 := K1 hy318
                           clear hy318
                           have H' := K1 H
                           clear H
                           obtain ⟨Ao37, co37, eo37⟩ := Kd.R_slice HO_8.out
                           subst eo37
                           have p317 : 0 ≤ (x9_3 : Int) := of_decide_eq_true (mA)
                           have q317 : x9_3 < (t314.length : Int) := of_decide_eq_true (mA)
                           obtain ⟨ad317, e317, hx317_0⟩ := Kd.at_int (Kd.R_reads' HO_8.out).2.2 x9_3 p317 q317
                           cases e317
                           replace p317 := eq_true p317
                           replace q317 := eq_true q317
                           have p36 : 0 ≤ ((rd t314 x9_3) : Int) := of_decide_eq_true (mA)
                           have q36 : ((rd t314 x9_3) : Int) < ((x5_3.length : Int) : Int) := of_decide_eq_true (mA)
                           obtain ⟨hx36_0, hf36_0⟩ := Kd.R_celln false HO_5.out ((rd t314 x9_3) : Int) p36 q36
                           replace p36 := eq_true p36
                           replace q36 := eq_true q36
                           have HP38 := Kd.R_putg HO_5.out ((rd t314 x9_3) : Int) true
                           go_wp2_with (first | ((with_reducible refine gate_store (t := 4) (p := 69) rfl ?_); refine store_event (t := 4) (p := 69) (v := ?vo_w39) (w1 := (wr.setCell ⟨go9, ((rd t314 x9_3) : Int).toNat, none⟩ (.bool true))) ?hg ?ho ?hn ?hr ?_; (case ho => rfl); (case hg => rfl); (case hn => rfl); (case hr => first | (go_simp; done) | (go_simp; rfl)); intro w39 hw; have hg : wr.grownBy w39 (some go9) := (by rw [hw]; exact HP38.2); have hp_ : Kd.R Kd.bool 4 w39 w.heap.size (fun _ => True) (.slice (some ⟨go9, 0, none⟩) x5_3.length co9) y318 := (by rw [hw, Ny318.out]; exact HP38.1); clear HP38; have n0_ := K1 (hp_); have n1_ := K1 (Kd.R_over' (v := (.slice (some ⟨go9, 0, none⟩) x5_3.length co9)) (mV HO_8.out) (Kd.R_typed HO_5.out) (by decide) hg); have n2_ := K1 (blk_grown (mU BK305.out) hg (Kd.R_ne HO_5.out BK305.out (by decide))); have n3_ := K1 ((by rw [hw]; exact below_set (HB.out) GB9.out : Below w.heap.size w w39)); clear HO_5; clear HO_8; clear BK305; clear HB; have HO_5 := n0_; have HO_8 := n1_; have BK305 := n2_; have HB := n3_; clear n0_ n1_ n2_ n3_; clear hg hw hp_))
                           (try simp only [← hl5_3])
                           go_roundg k3
                           case measure => have := HK1.out; have := HK2.out; have := HK3.out; omega
                           case rel => exact ⟨(y318), (true), (wrap64 (x9_3 + 1)), (mF), (mF), H', ⟨by have := HK1.out; have := HK2.out; have := HK3.out; omega⟩, ⟨by (try simp only [hl5_1]); (try simp only [hl5_2]); (try simp only [hl5_3]); (with_reducible repeat (first | apply Kd.R_alloc | apply Kd.R_drewN | apply Kd.R_drew)); exact HO_5.out⟩, ⟨by (try simp only [hl5_1]); (try simp only [hl5_2]); (try simp only [hl5_3]); (with_reducible repeat (first | apply Kd.R_alloc | apply Kd.R_drewN | apply Kd.R_drew)); exact HO_8.out⟩, ⟨by (try simp only [hl5_1]); (try simp only [hl5_2]); (try simp only [hl5_3]); refine mU ?_; exact BK305.out⟩, ⟨mB⟩⟩
                          ·rw [if_neg c35] at H
                           exact absurd H (by simp)
                         ·rw [if_neg c34] at H
                          exact absurd H (by simp)
                        ·rw [if_neg c33] at H
                         exact absurd H (by simp)
                       ·replace c32 := Bool.eq_false_iff.mpr c32
                        subst c32
                        have H1 : (if 0 ≤ x9_3 then (if 0 ≤ (rd t314 x9_3) then (if (rd t314 x9_3) < (x5_3.length : Int) then (rotaref08_reach.l2 k3 a1 (x5_3.set ((rd t314 x9_3) : Int).toNat true) (!(rdOf false x5_3 (rd t314 x9_3))) x7_2 t314 (wrap64 (x9_3 + 1)) l0_0 l0_1 l0_2) else (none)) else (none)) else (none)) = some r := by rw [if_neg (show ¬ (false = true) by decide)] at H; exact H
                        clear H
                        have H := H1
                        clear H1
                        by_cases c40 : 0 ≤ x9_3
                        ·rw [if_pos c40] at H
                         have c40b0 : decide (0 ≤ x9_3) = true := decide_eq_true c40
                         clear c40
                         by_cases c41 : 0 ≤ (rd t314 x9_3)
                         ·rw [if_pos c41] at H
                          have c41b0 : decide (0 ≤ (rd t314 x9_3)) = true := decide_eq_true c41
                          clear c41
                          by_cases c42 : (rd t314 x9_3) < (x5_3.length : Int)
                          ·rw [if_pos c42] at H
                           have c42b0 : decide ((rd t314 x9_3) < (x5_3.length : Int)) = true := decide_eq_true c42
                           clear c42
                           obtain ⟨y322, hy322⟩ : ∃ y_ : List Bool, y_ = (x5_3.set ((rd t314 x9_3) : Int).toNat true) := ⟨_, rfl⟩
                           replace H : (rotaref08_reach.l2 k3 a1 y322 (!(rdOf false x5_3 (rd t314 x9_3))) x7_2 t314 (wrap64 (x9_3 + 1)) l0_0 l0_1 l0_2) = some r := by first | (rw [hy322]; with_reducible exact H) | (have H2_ := (Option.bind_some _ _).symm.trans H; rw [hy322]; with_reducible exact H2_) | (have H2_ := (Option.bind_some _ _).symm.trans H; with_reducible exact H2_) | with_reducible exact H | (rw [hy322]; exact H) | exact H
                           have Ny322 := K1 hy322
                           clear hy322
                           have H' := K1 H
                           clear H
                           obtain ⟨Ao44, co44, eo44⟩ := Kd.R_slice HO_8.out
                           subst eo44
                           have p319 : 0 ≤ (x9_3 : Int) := of_decide_eq_true (mA)
                           have q319 : x9_3 < (t314.length : Int) := of_decide_eq_true (mA)
                           obtain ⟨ad319, e319, hx319_0⟩ := Kd.at_int (Kd.R_reads' HO_8.out).2.2 x9_3 p319 q319
                           cases e319
                           replace p319 := eq_true p319
                           replace q319 := eq_true q319
                           have p320 : 0 ≤ ((rd t314 x9_3) : Int) := of_decide_eq_true (mA)
                           have q320 : (rd t314 x9_3) < (x5_3.length : Int) := of_decide_eq_true (mA)
                           obtain ⟨ad320, e320, hx320_0⟩ := Kd.at_bool (Kd.R_reads' HO_5.out).2.2 (rd t314 x9_3) p320 q320
                           (try rw [← Nbq26.out] at hx320_0)
                           obtain rfl : (⟨go9, 0, none⟩ : Addr) = ad320 := (by injection e320)
                           (first | simp only [add_plain] at hx320_0 | simp only [add_at] at hx320_0 | simp only [Addr.add, Nat.zero_add] at hx320_0 | skip)
                           replace p320 := eq_true p320
                           replace q320 := eq_true q320
                           have p321 : 0 ≤ (x9_3 : Int) := of_decide_eq_true (mA)
                           have q321 : x9_3 < (t314.length : Int) := of_decide_eq_true (mA)
                           obtain ⟨ad321, e321, hx321_0⟩ := Kd.at_int (Kd.R_reads' HO_8.out).2.2 x9_3 p321 q321
                           obtain rfl : ad319 = ad321 := (by injection e321)
                           replace p321 := eq_true p321
                           replace q321 := eq_true q321
                           have p43 : 0 ≤ ((rd t314 x9_3) : Int) := of_decide_eq_true (mA)
                           have q43 : ((rd t314 x9_3) : Int) < ((x5_3.length : Int) : Int) := of_decide_eq_true (mA)
                           obtain ⟨hx43_0, hf43_0⟩ := Kd.R_celln false HO_5.out ((rd t314 x9_3) : Int) p43 q43
                           replace p43 := eq_true p43
                           replace q43 := eq_true q43
                           have HP45 := Kd.R_putg HO_5.out ((rd t314 x9_3) : Int) true
                           go_wp2_with (first | ((with_reducible refine gate_store (t := 4) (p := 69) rfl ?_); refine store_event (t := 4) (p := 69) (v := ?vo_w46) (w1 := (wr.setCell ⟨go9, ((rd t314 x9_3) : Int).toNat, none⟩ (.bool true))) ?hg ?ho ?hn ?hr ?_; (case ho => rfl); (case hg => rfl); (case hn => rfl); (case hr => first | (go_simp; done) | (go_simp; rfl)); intro w46 hw; have hg : wr.grownBy w46 (some go9) := (by rw [hw]; exact HP45.2); have hp_ : Kd.R Kd.bool 4 w46 w.heap.size (fun _ => True) (.slice (some ⟨go9, 0, none⟩) x5_3.length co9) y322 := (by rw [hw, Ny322.out]; exact HP45.1); clear HP45; have n0_ := K1 (hp_); have n1_ := K1 (Kd.R_over' (v := (.slice (some ⟨go9, 0, none⟩) x5_3.length co9)) (mV HO_8.out) (Kd.R_typed HO_5.out) (by decide) hg); have n2_ := K1 (blk_grown (mU BK305.out) hg (Kd.R_ne HO_5.out BK305.out (by decide))); have n3_ := K1 ((by rw [hw]; exact below_set (HB.out) GB9.out : Below w.heap.size w w46)); clear HO_5; clear HO_8; clear BK305; clear HB; have HO_5 := n0_; have HO_8 := n1_; have BK305 := n2_; have HB := n3_; clear n0_ n1_ n2_ n3_; clear hg hw hp_))
                           (try simp only [← hl5_3])
                           go_roundg k3
                           case measure => have := HK1.out; have := HK2.out; have := HK3.out; omega
                           case rel => exact ⟨(y322), (!(rdOf false x5_3 (rd t314 x9_3))), (wrap64 (x9_3 + 1)), (mF), (mF), H', ⟨by have := HK1.out; have := HK2.out; have := HK3.out; omega⟩, ⟨by (try simp only [hl5_1]); (try simp only [hl5_2]); (try simp only [hl5_3]); (with_reducible repeat (first | apply Kd.R_alloc | apply Kd.R_drewN | apply Kd.R_drew)); exact HO_5.out⟩, ⟨by (try simp only [hl5_1]); (try simp only [hl5_2]); (try simp only [hl5_3]); (with_reducible repeat (first | apply Kd.R_alloc | apply Kd.R_drewN | apply Kd.R_drew)); exact HO_8.out⟩, ⟨by (try simp only [hl5_1]); (try simp only [hl5_2]); (try simp only [hl5_3]); refine mU ?_; exact BK305.out⟩, ⟨mB⟩⟩
                          ·rw [if_neg c42] at H
                           exact absurd H (by simp)
                         ·rw [if_neg c41] at H
                          exact absurd H (by simp)
                        ·rw [if_neg c40] at H
                         exact absurd H (by simp)
                      ·rw [if_neg c31] at H
                       have c31b0 : decide (x9_3 < (t314.length : Int)) = false := decide_eq_false c31
                       clear c31
                       have H' := K1 H
                       clear H
                       obtain ⟨Ao47, co47, eo47⟩ := Kd.R_slice HO_8.out
                       subst eo47
                       go_wp2
                       (try simp only [← hl5_2, ← hl5_3])
                       go_roundg k3
                       case measure => have := HK1.out; have := HK2.out; have := HK3.out; omega
                       case rel => exact ⟨(x5_3), (x6_3), (wrap64 (x7_2 + 1)), (mF), (mF), H', ⟨by have := HK1.out; have := HK2.out; have := HK3.out; omega⟩, ⟨by (try simp only [hl5_1]); (try simp only [hl5_2]); (try simp only [hl5_3]); (with_reducible repeat (first | apply Kd.R_alloc | apply Kd.R_drewN | apply Kd.R_drew)); exact HO_5.out⟩, ⟨by (try simp only [hl5_1]); (try simp only [hl5_2]); (try simp only [hl5_3]); refine mU ?_; exact BK305.out⟩, ⟨mB⟩⟩
                   ·replace c27 := Bool.eq_false_iff.mpr c27
                    subst c27
                    have H1 : (rotaref08_reach.l1 k2 a1 x5_2 x6_2 (wrap64 (x7_2 + 1)) l0_0 l0_1 l0_2) = some r := by rw [if_neg (show ¬ (false = true) by decide)] at H; exact H
                    clear H
                    have H := H1
                    clear H1
                    have H' := K1 H
                    clear H
                    obtain ⟨hcz48_0, hcz48_1, hcz48_2, hfz48_0, hfz48_1, hfz48_2⟩ := cf3 BK305
                    have p312 : 0 ≤ (a1 : Int) := of_decide_eq_true (mA)
                    have q312 : a1 < (l0_1.length : Int) := of_decide_eq_true (mA)
                    obtain ⟨ad312, e312, hx312_0, hx312_1⟩ := at_T34 HR0_1.out a1 p312 q312
                    obtain rfl : ad309 = ad312 := (by injection e312)
                    replace hx312_0 := (HB.out.cell (World.block_lt_of_cell? w _ hx312_0)).trans hx312_0
                    replace hx312_1 := (HB.out.cell (World.block_lt_of_cell? w _ hx312_1)).trans hx312_1
                    replace p312 := eq_true p312
                    replace q312 := eq_true q312
                    have p313 : 0 ≤ (x7_2 : Int) := of_decide_eq_true (mA)
                    have q313 : x7_2 < (x5_2.length : Int) := of_decide_eq_true (mA)
                    obtain ⟨ad313, e313, hx313_0⟩ := Kd.at_bool (Kd.R_reads' HO_5.out).2.2 x7_2 p313 q313
                    (try rw [← Nbq26.out] at hx313_0)
                    obtain rfl : (⟨go9, 0, none⟩ : Addr) = ad313 := (by injection e313)
                    (first | simp only [add_plain] at hx313_0 | simp only [add_at] at hx313_0 | simp only [Addr.add, Nat.zero_add] at hx313_0 | skip)
                    replace p313 := eq_true p313
                    replace q313 := eq_true q313
                    go_wp2
                    (try simp only [← hl5_2])
                    go_roundg k2
                    case measure => have := HK1.out; have := HK2.out; omega
                    case rel => exact ⟨(x5_2), (x6_2), (wrap64 (x7_2 + 1)), (mF), (mF), H', ⟨by have := HK1.out; have := HK2.out; omega⟩, ⟨by (try simp only [hl5_1]); (try simp only [hl5_2]); (with_reducible repeat (first | apply Kd.R_alloc | apply Kd.R_drewN | apply Kd.R_drew)); exact HO_5.out⟩, ⟨by (try simp only [hl5_1]); (try simp only [hl5_2]); refine mU ?_; exact BK305.out⟩, ⟨mB⟩⟩
                  ·rw [if_neg c25] at H
                   exact absurd H (by simp)
                 ·rw [if_neg c24] at H
                  exact absurd H (by simp)
                ·rw [if_neg c23] at H
                 have c23b0 : decide (x7_2 < ((rd_T34 l0_1 a1).f1)) = false := decide_eq_false c23
                 clear c23
                 have H' := K1 H
                 clear H
                 obtain ⟨hcz49_0, hcz49_1, hcz49_2, hfz49_0, hfz49_1, hfz49_2⟩ := cf3 BK305
                 have p312 : 0 ≤ (a1 : Int) := of_decide_eq_true (mA)
                 have q312 : a1 < (l0_1.length : Int) := of_decide_eq_true (mA)
                 obtain ⟨ad312, e312, hx312_0, hx312_1⟩ := at_T34 HR0_1.out a1 p312 q312
                 obtain rfl : ad309 = ad312 := (by injection e312)
                 replace hx312_0 := (HB.out.cell (World.block_lt_of_cell? w _ hx312_0)).trans hx312_0
                 replace hx312_1 := (HB.out.cell (World.block_lt_of_cell? w _ hx312_1)).trans hx312_1
                 replace p312 := eq_true p312
                 replace q312 := eq_true q312
                 go_wp2
                 (try simp only [← hl5_1, ← hl5_2])
                 go_roundg k2
                 case measure => have := HK1.out; have := HK2.out; omega
                 case rel => exact ⟨(x5_2), (x6_2), (mF), H', ⟨by have := HK1.out; have := HK2.out; omega⟩, ⟨by (try simp only [hl5_1]); (try simp only [hl5_2]); (with_reducible repeat (first | apply Kd.R_alloc | apply Kd.R_drewN | apply Kd.R_drew)); exact HO_5.out⟩, ⟨by (try simp only [hl5_1]); (try simp only [hl5_2]); refine mU ?_; exact BK305.out⟩, ⟨mB⟩⟩
               ·rw [if_neg c22] at H
                exact absurd H (by simp)
              ·rw [if_neg c21] at H
               exact absurd H (by simp)
           ·rw [if_neg c19] at H
            exact absurd H (by simp)
          ·rw [if_neg c18] at H
           exact absurd H (by simp)
         ·replace c17 := Bool.eq_false_iff.mpr c17
          subst c17
          have H1 : (some x5_1) = some r := by rw [if_neg (show ¬ (false = true) by decide)] at H; exact H
          clear H
          have H := H1
          clear H1
          obtain rfl := Option.some.inj H
          go_wp2
          go_ret
          exact ⟨_, mE, by (with_reducible repeat (first | apply Kd.R_alloc | apply Kd.R_drewN | apply Kd.R_drew)); exact HO_5.out, mB⟩
      ·rw [if_neg c8] at H
       exact absurd H (by simp)
     ·rw [if_neg c7] at H
      exact absurd H (by simp)
    ·rw [if_neg c6] at H
     exact absurd H (by simp)
   ·rw [if_neg c5] at H
    exact absurd H (by simp)
  ·rw [if_neg c4] at H
   exact absurd H (by simp)
 ·rw [if_neg c3] at H
  exact absurd H (by simp)

end Go.Proofs.Ytdlikjfffdpmiaa.QProper

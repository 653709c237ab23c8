/- Printed: a function's machine side. Conditions: none. -/
import Derived.Test.YtdlikjfffdpmiaaQProperx0
import Derived.Test.YtdlikjfffdpmiaaQProperx50
namespace Go.Proofs.Ytdlikjfffdpmiaa.QProper
open Go.RowKit Go.Proofs.YtdlikjfffdpmiaaW.PrintWords Go.Proofs.YtdlikjfffdpmiaaW.PrintLast Go.Proofs.YtdlikjfffdpmiaaW.PrintMore
set_option linter.unusedVariables false
set_option linter.unusedSimpArgs false

/-! ### rotaref08_calls: function 48 -/
mutual
def rotaref08_calls.l0 : Nat → Bool → List Bool → Bool → List Int → List (S34) → List (S58) → Option (List Bool)
 | 0, _, _, _, _, _, _ => none
 | k + 1, x2, x7, x8, x434000, x434001, x434002 => if x8 = true then (rotaref08_calls.l1 k x2 x7 false 0 x434000 x434001 x434002) else (some x7)
def rotaref08_calls.l1 : Nat → Bool → List Bool → Bool → Int → List Int → List (S34) → List (S58) → Option (List Bool)
 | 0, _, _, _, _, _, _, _ => none
 | k + 1, x2, x7, x8, x9, x434000, x434001, x434002 => if x9 < (x7.length : Int) then (if 0 ≤ x9 then (if rdOf false x7 x9 = true then ((rotaref08_named.f k x434000 x434001 x434002 x9 x2).bind fun t439 => (rotaref08_calls.l2 k x2 x7 x8 x9 t439 0 x434000 x434001 x434002)) else (rotaref08_calls.l1 k x2 x7 x8 (wrap64 (x9 + 1)) x434000 x434001 x434002)) else (none)) else (rotaref08_calls.l0 k x2 x7 x8 x434000 x434001 x434002)
def rotaref08_calls.l2 : Nat → Bool → List Bool → Bool → Int → List Bool → Int → List Int → List (S34) → List (S58) → Option (List Bool)
 | 0, _, _, _, _, _, _, _, _, _ => none
 | k + 1, x2, x7, x8, x9, x10, x11, x434000, x434001, x434002 => if x11 < (x10.length : Int) then (if x8 = true then (if 0 ≤ x11 then (if x11 < (x7.length : Int) then (if rdOf false x7 x11 = true then (rotaref08_calls.l2 k x2 (x7.set (x11 : Int).toNat true) true x9 x10 (wrap64 (x11 + 1)) x434000 x434001 x434002) else (rotaref08_calls.l2 k x2 (x7.set (x11 : Int).toNat (rdOf false x10 x11)) true x9 x10 (wrap64 (x11 + 1)) x434000 x434001 x434002)) else (none)) else (none)) else (if 0 ≤ x11 then (if rdOf false x10 x11 = true then (if x11 < (x7.length : Int) then (if rdOf false x7 x11 = true then (rotaref08_calls.l2 k x2 (x7.set (x11 : Int).toNat true) (!(rdOf false x7 x11)) x9 x10 (wrap64 (x11 + 1)) x434000 x434001 x434002) else (rotaref08_calls.l2 k x2 (x7.set (x11 : Int).toNat (rdOf false x10 x11)) (!(rdOf false x7 x11)) x9 x10 (wrap64 (x11 + 1)) x434000 x434001 x434002)) else (none)) else (if x11 < (x7.length : Int) then (if rdOf false x7 x11 = true then (rotaref08_calls.l2 k x2 (x7.set (x11 : Int).toNat true) false x9 x10 (wrap64 (x11 + 1)) x434000 x434001 x434002) else (rotaref08_calls.l2 k x2 (x7.set (x11 : Int).toNat (rdOf false x10 x11)) false x9 x10 (wrap64 (x11 + 1)) x434000 x434001 x434002)) else (none))) else (none))) else (rotaref08_calls.l1 k x2 x7 x8 (wrap64 (x9 + 1)) x434000 x434001 x434002)
end
def rotaref08_calls.f (k : Nat) (l0_0 : List Int) (l0_1 : List (S34)) (l0_2 : List (S58)) (a1 : Int) (a2 : Bool) : Option (List Bool) := if 0 ≤ (l0_1.length : Int) then (if ((l0_1.length : Int) : Int).toNat ≤ 281474976710656 then ((some (List.replicate ((l0_1.length : Int) : Int).toNat false : List Bool)).bind fun y434 => (if 0 ≤ a1 then (if a1 < (y434.length : Int) then (rotaref08_calls.l0 k a2 (y434.set (a1 : Int).toNat true) true l0_0 l0_1 l0_2) else (none)) else (none))) else (none)) else (none)
theorem rotaref08_calls.mono_l : ∀ k, (∀ y0 y1 y2 y3 y4 y5, LeO (rotaref08_calls.l0 k y0 y1 y2 y3 y4 y5) (rotaref08_calls.l0 (k + 1) y0 y1 y2 y3 y4 y5)) ∧ (∀ y0 y1 y2 y3 y4 y5 y6, LeO (rotaref08_calls.l1 k y0 y1 y2 y3 y4 y5 y6) (rotaref08_calls.l1 (k + 1) y0 y1 y2 y3 y4 y5 y6)) ∧ (∀ y0 y1 y2 y3 y4 y5 y6 y7 y8, LeO (rotaref08_calls.l2 k y0 y1 y2 y3 y4 y5 y6 y7 y8) (rotaref08_calls.l2 (k + 1) y0 y1 y2 y3 y4 y5 y6 y7 y8))
 | 0 => ⟨fun _ _ _ _ _ _ r h => by simp [rotaref08_calls.l0] at h, fun _ _ _ _ _ _ _ r h => by simp [rotaref08_calls.l1] at h, fun _ _ _ _ _ _ _ _ _ r h => by simp [rotaref08_calls.l2] at h⟩
 | k + 1 => by
  obtain ⟨ih0, ih1, ih2⟩ := rotaref08_calls.mono_l k
  refine ⟨?_, ?_, ?_⟩
  ·intro y0 y1 y2 y3 y4 y5
   unfold rotaref08_calls.l0
   repeat' first
   | (with_reducible exact ih0 _ _ _ _ _ _)
   | (with_reducible exact ih1 _ _ _ _ _ _ _)
   | (with_reducible exact ih2 _ _ _ _ _ _ _ _ _)
   | (with_reducible exact rotaref08_named.mono _ _ _ _ _ _)
   | (with_reducible exact LeO.refl _)
   | (with_reducible exact LeO.none _)
   | (with_reducible refine LeO.ite ?_ ?_)
   | (with_reducible refine LeO.bind ?_ (fun _ => ?_))
   | exact ih0 _ _ _ _ _ _
   | exact ih1 _ _ _ _ _ _ _
   | exact ih2 _ _ _ _ _ _ _ _ _
   | exact rotaref08_named.mono _ _ _ _ _ _
   | exact LeO.none _
   | refine LeO.ite ?_ ?_
   | refine LeO.bind ?_ (fun _ => ?_)
  ·intro y0 y1 y2 y3 y4 y5 y6
   unfold rotaref08_calls.l1
   repeat' first
   | (with_reducible exact ih0 _ _ _ _ _ _)
   | (with_reducible exact ih1 _ _ _ _ _ _ _)
   | (with_reducible exact ih2 _ _ _ _ _ _ _ _ _)
   | (with_reducible exact rotaref08_named.mono _ _ _ _ _ _)
   | (with_reducible exact LeO.refl _)
   | (with_reducible exact LeO.none _)
   | (with_reducible refine LeO.ite ?_ ?_)
   | (with_reducible refine LeO.bind ?_ (fun _ => ?_))
   | exact ih0 _ _ _ _ _ _
   | exact ih1 _ _ _ _ _ _ _
   | exact ih2 _ _ _ _ _ _ _ _ _
   | exact rotaref08_named.mono _ _ _ _ _ _
   | exact LeO.none _
   | refine LeO.ite ?_ ?_
   | refine LeO.bind ?_ (fun _ => ?_)
  ·intro y0 y1 y2 y3 y4 y5 y6 y7 y8
   unfold rotaref08_calls.l2
   repeat' first
   | (with_reducible exact ih0 _ _ _ _ _ _)
   | (with_reducible exact ih1 _ _ _ _ _ _ _)
   | (with_reducible exact ih2 _ _ _ _ _ _ _ _ _)
   | (with_reducible exact rotaref08_named.mono _ _ _ _ _ _)
   | (with_reducible exact LeO.refl _)
   | (with_reducible exact LeO.none _)
   | (with_reducible refine LeO.ite ?_ ?_)
   | (with_reducible refine LeO.bind ?_ (fun _ => ?_))
   | exact ih0 _ _ _ _ _ _
   | exact ih1 _ _ _ _ _ _ _
   | exact ih2 _ _ _ _ _ _ _ _ _
   | exact rotaref08_named.mono _ _ _ _ _ _
   | exact LeO.none _
   | refine LeO.ite ?_ ?_
   | refine LeO.bind ?_ (fun _ => ?_)
theorem rotaref08_calls.mono : ∀ a0 a1 a2 a3 a4 k, LeO (rotaref08_calls.f k a0 a1 a2 a3 a4) (rotaref08_calls.f (k + 1) a0 a1 a2 a3 a4) := by
 intro a0 a1 a2 a3 a4 k
 obtain ⟨ih0, ih1, ih2⟩ := rotaref08_calls.mono_l k
 unfold rotaref08_calls.f
 repeat' first
   | (with_reducible exact ih0 _ _ _ _ _ _)
   | (with_reducible exact ih1 _ _ _ _ _ _ _)
   | (with_reducible exact ih2 _ _ _ _ _ _ _ _ _)
   | (with_reducible exact rotaref08_named.mono _ _ _ _ _ _)
   | (with_reducible exact LeO.refl _)
   | (with_reducible exact LeO.none _)
   | (with_reducible refine LeO.ite ?_ ?_)
   | (with_reducible refine LeO.bind ?_ (fun _ => ?_))
   | exact ih0 _ _ _ _ _ _
   | exact ih1 _ _ _ _ _ _ _
   | exact ih2 _ _ _ _ _ _ _ _ _
   | exact rotaref08_named.mono _ _ _ _ _ _
   | exact LeO.none _
   | refine LeO.ite ?_ ?_
   | refine LeO.bind ?_ (fun _ => ?_)
set_option maxHeartbeats 8000000 in
set_option maxRecDepth 100000 in
theorem rotaref08_calls.calls (k : Nat) (A0_0 : Option Addr) (c0_0 : Nat) (l0_0 : List Int) (A0_1 : Option Addr) (c0_1 : Nat) (l0_1 : List (S34)) (A0_2 : Option Addr) (c0_2 : Nat) (l0_2 : List (S58)) (a1 : Int) (a2 : Bool) (r : List Bool) (w : World) (hr0_0 : Kd.C (Kd.int .u32) w A0_0 l0_0.length l0_0) (hc0_0 : l0_0.length ≤ c0_0) (hr0_1 : Kd.C k34 w A0_1 l0_1.length l0_1) (hc0_1 : l0_1.length ≤ c0_1) (hr0_2 : Kd.C k58 w A0_2 l0_2.length l0_2) (hc0_2 : l0_2.length ≤ c0_2) (h : rotaref08_calls.f k l0_0 l0_1 l0_2 a1 a2 = some r) :
  Calls Try.prog 48 #[.agg #[.slice A0_0 l0_0.length c0_0, .slice A0_1 l0_1.length c0_1, .slice A0_2 l0_2.length c0_2], .int .i64 a1, .bool a2] w fun e w' => ∃ v0_ : Value, e = .returned (v0_) ∧ Kd.R Kd.bool 4 w' w.heap.size (fun _ => True) v0_ r ∧ Below w.heap.size w w' := by
 have hu26 := Try.underlying26
 have HR0_0 := K1 hr0_0
 have HC0_0 := K1 hc0_0
 clear hr0_0 hc0_0
 have HR0_1 := K1 hr0_1
 have HC0_1 := K1 hc0_1
 clear hr0_1 hc0_1
 have HR0_2 := K1 hr0_2
 have HC0_2 := K1 hc0_2
 clear hr0_2 hc0_2
 have HB := K1 (Below.refl w.heap.size w)
 have H : (if 0 ≤ (l0_1.length : Int) then (if ((l0_1.length : Int) : Int).toNat ≤ 281474976710656 then ((some (List.replicate ((l0_1.length : Int) : Int).toNat false : List Bool)).bind fun y434 => (if 0 ≤ a1 then (if a1 < (y434.length : Int) then (rotaref08_calls.l0 k a2 (y434.set (a1 : Int).toNat true) true l0_0 l0_1 l0_2) else (none)) else (none))) else (none)) else (none)) = some r := h
 clear h
 by_cases c4 : 0 ≤ (l0_1.length : Int)
 ·rw [if_pos c4] at H
  have c4b0 := eq_true c4
  have c4b1 : decide (0 ≤ (l0_1.length : Int)) = true := decide_eq_true c4
  clear c4
  by_cases c5 : ((l0_1.length : Int) : Int).toNat ≤ 281474976710656
  ·rw [if_pos c5] at H
   have c5b0 := eq_true c5
   have c5b1 : decide (((l0_1.length : Int) : Int).toNat ≤ 281474976710656) = true := decide_eq_true c5
   clear c5
   obtain ⟨y434, hy434⟩ : ∃ y_ : List Bool, y_ = (List.replicate ((l0_1.length : Int) : Int).toNat false) := ⟨_, rfl⟩
   replace H : (if 0 ≤ a1 then (if a1 < (y434.length : Int) then (rotaref08_calls.l0 k a2 (y434.set (a1 : Int).toNat true) true l0_0 l0_1 l0_2) else (none)) else (none)) = some r := by first | (rw [hy434]; with_reducible exact H) | (have H2_ := (Option.bind_some _ _).symm.trans H; rw [hy434]; with_reducible exact H2_) | (have H2_ := (Option.bind_some _ _).symm.trans H; with_reducible exact H2_) | with_reducible exact H | (rw [hy434]; exact H) | exact H
   have Ny434 := K1 hy434
   clear hy434
   by_cases c6 : 0 ≤ a1
   ·rw [if_pos c6] at H
    have c6b0 : decide (0 ≤ a1) = true := decide_eq_true c6
    clear c6
    by_cases c7 : a1 < (y434.length : Int)
    ·rw [if_pos c7] at H
     have c7b0 : decide (a1 < (y434.length : Int)) = true := decide_eq_true c7
     clear c7
     obtain ⟨y437, hy437⟩ : ∃ y_ : List Bool, y_ = (y434.set (a1 : Int).toNat true) := ⟨_, rfl⟩
     replace H : (rotaref08_calls.l0 k a2 y437 true l0_0 l0_1 l0_2) = some r := by first | (rw [hy437]; with_reducible exact H) | (have H2_ := (Option.bind_some _ _).symm.trans H; rw [hy437]; with_reducible exact H2_) | (have H2_ := (Option.bind_some _ _).symm.trans H; with_reducible exact H2_) | with_reducible exact H | (rw [hy437]; exact H) | exact H
     have Ny437 := K1 hy437
     clear hy437
     have H' := K1 H
     clear H
     go_enter Try.func48, Try.ntmps48
     go_wp2_with (first | ((with_reducible refine gate_dst (N := 3) rfl ?_); refine bev (N := 3) (cs := #[.slice A0_0 l0_0.length c0_0, .slice A0_1 l0_1.length c0_1, .slice A0_2 l0_2.length c0_2]) (t := 26) (h := ?_); intro gb433 hg w9 hbox hb; have BK433 := K1 (hbox); have GW433 := K1 (mG : w.heap.size ≤ gb433); have GE433 := K1 (mG : w.heap.size ≤ gb433); replace HB := K1 (below_step mB hb); clear hb hbox hg; obtain ⟨hcz10_0, hcz10_1, hcz10_2, hfz10_0, hfz10_1, hfz10_2⟩ := cf3 BK433) | ((with_reducible refine gate_dst (N := 15) rfl ?_); refine Kd.R_make Kd.bool _ 4 rfl (N := 15) rfl 67 _ _ rfl (l0_1.length : Int) rfl rfl Try.underlying67 (.bool false) 1 info4 rfl (by decide) (by omega) false (ok := fun _ => True) (okp := fun _ => True) rfl (fun _ hk => hk) trivial (of_decide_eq_true (mA)) (Nat.le_trans (Nat.mul_le_mul_right _ (of_decide_eq_true (mA) : (l0_1.length : Int).toNat ≤ 281474976710656)) (by omega)) (Below.refl _ _) (Nat.le_refl _) ?_; intro v435 w11 ho12 hb hg_ hnew_; clear hg_ hnew_; (first | rw [← Ny434.out] at ho12 | (simp only [Int.reduceToNat] at ho12; rw [← Ny434.out] at ho12)); have HO436 := K1 (Kd.R_lower ho12 (below_size mB)); replace BK433 := K1 (blk_below (mU BK433.out) hb); replace HB := K1 (below_step mB hb); clear hb ho12; have p8 : 0 ≤ (a1 : Int) := of_decide_eq_true (mA); have q8 : (a1 : Int) < ((y434.length : Int) : Int) := of_decide_eq_true (mA); obtain ⟨go8, co8, eo8, gb8, gl8, cl8, HG8⟩ := Kd.R_form HO436.out (by omega); (first | cases eo8 | (injection eo8 with ea_ en_ ec_; (first | subst ea_ | (injection ea_ with ea_; subst ea_)); subst ec_; clear en_)); have GB8 := K1 gb8; have GG8 := K1 HG8; clear gb8 gl8 HG8; obtain ⟨hx8_0, hf8_0⟩ := Kd.R_celln false HO436.out (a1 : Int) p8 q8; replace p8 := eq_true p8; replace q8 := eq_true q8; obtain ⟨hy13_, hz13_⟩ := Kd.R_celln false HO436.out (a1 : Int) (of_decide_eq_true (mA)) (of_decide_eq_true (mA)); have HP13 := Kd.R_putg HO436.out (a1 : Int) true) | ((with_reducible refine gate_store (t := 4) (p := 18) rfl ?_); refine store_event (t := 4) (p := 18) (v := ?vo_w14) (w1 := (w11.setCell ⟨go8, (a1 : Int).toNat, none⟩ (.bool true))) ?hg ?ho ?hn ?hr ?_; (case ho => rfl); (case hg => rfl); (case hn => rfl); (case hr => first | (go_simp; done) | (go_simp; rfl)); intro w14 hw; have hg : w11.grownBy w14 (some go8) := (by rw [hw]; exact HP13.2); have hp_ : Kd.R Kd.bool 4 w14 w.heap.size (fun _ => True) (.slice (some ⟨go8, 0, none⟩) y434.length co8) y437 := (by rw [hw, Ny437.out]; exact HP13.1); clear HP13; replace BK433 := K1 (blk_grown (mU BK433.out) hg (Kd.R_ne HO436.out BK433.out (by decide))); replace HO436 := K1 (hp_); replace HB := K1 ((by rw [hw]; exact below_set (HB.out) GB8.out : Below w.heap.size w w14)); clear hg hw hp_))
     go_loopg [8] k (fun kq v8 w' => ∃ (x7_1 : List Bool) (x8_1 : Bool), v8 = .bool x8_1 ∧ Aside0 (rotaref08_calls.l0 kq a2 x7_1 x8_1 l0_0 l0_1 l0_2 = some r) ∧ Aside0 (kq ≤ k) ∧ Aside0 (Kd.R Kd.bool 4 w' w.heap.size (fun _ => True) (.slice (some ⟨go8, 0, none⟩) y434.length co8) x7_1) ∧ Aside0 (w'.heap[gb433]? = some (.cells #[(.slice A0_0 l0_0.length c0_0), (.slice A0_1 l0_1.length c0_1), (.slice A0_2 l0_2.length c0_2)] 26 (0, 0))) ∧ Aside0 (Below w.heap.size w w'))
     case atStart => exact ⟨(y437), (true), (mF), H', ⟨Nat.le_refl _⟩, ⟨mV HO436.out⟩, ⟨mU BK433.out⟩, ⟨mB⟩⟩
     case round =>
      clear H' c4b0 c4b1 c5b0 c5b1 c6b0 c7b0 p8 q8 hcz10_0 hcz10_1 hcz10_2 hfz10_0 hfz10_1 hfz10_2 hx8_0
      obtain ⟨x7_1, x8_1, rfl, HA, HK1, HO_7, BK433, HB⟩ := hrel
      have hl7_1 := (Kd.R_reads' HO_7.out).1
      rw [hl7_1] at HO_7
      (try simp only [hl7_1])
      (try simp only [hl7_1] at BK433)
      cases gk with
      | zero => exact absurd HA.out (by simp [rotaref08_calls.l0])
      | succ k1 =>
       have H := HA.out
       clear HA
       simp only [rotaref08_calls.l0] at H
       by_cases c15 : x8_1 = true
       ·subst c15
        have H1 : (rotaref08_calls.l1 k1 a2 x7_1 false 0 l0_0 l0_1 l0_2) = some r := by rw [if_pos rfl] at H; exact H
        clear H
        have H := H1
        clear H1
        have H' := K1 H
        clear H
        go_wp2
        go_loopg [8, 9] k1 (fun kq v8 v9 w' => ∃ (x7_2 : List Bool) (x8_2 : Bool) (x9_2 : Int), v8 = .bool x8_2 ∧ v9 = .int .i64 x9_2 ∧ Aside0 (rotaref08_calls.l1 kq a2 x7_2 x8_2 x9_2 l0_0 l0_1 l0_2 = some r) ∧ Aside0 (kq ≤ k1) ∧ Aside0 (Kd.R Kd.bool 4 w' w.heap.size (fun _ => True) (.slice (some ⟨go8, 0, none⟩) x7_1.length co8) x7_2) ∧ Aside0 (w'.heap[gb433]? = some (.cells #[(.slice A0_0 l0_0.length c0_0), (.slice A0_1 l0_1.length c0_1), (.slice A0_2 l0_2.length c0_2)] 26 (0, 0))) ∧ Aside0 (Below w.heap.size w w'))
        case atStart => exact ⟨(x7_1), (false), (0), (mF), (mF), H', ⟨Nat.le_refl _⟩, ⟨by (try simp only [hl7_1]); (with_reducible repeat (first | apply Kd.R_alloc | apply Kd.R_drewN | apply Kd.R_drew)); exact HO_7.out⟩, ⟨by (try simp only [hl7_1]); refine mU ?_; exact BK433.out⟩, ⟨mB⟩⟩
        case round =>
         clear H'
         obtain ⟨x7_2, x8_2, x9_2, rfl, rfl, HA, HK2, HO_7, BK433, HB⟩ := hrel
         have hl7_2 := (Kd.R_reads' HO_7.out).1
         rw [hl7_2] at HO_7
         (try simp only [hl7_2])
         (try simp only [hl7_2] at BK433)
         cases gk with
         | zero => exact absurd HA.out (by simp [rotaref08_calls.l1])
         | succ k2 =>
          have H := HA.out
          clear HA
          simp only [rotaref08_calls.l1] at H
          by_cases c16 : x9_2 < (x7_2.length : Int)
          ·rw [if_pos c16] at H
           have c16b0 : decide (x9_2 < (x7_2.length : Int)) = true := decide_eq_true c16
           clear c16
           by_cases c17 : 0 ≤ x9_2
           ·rw [if_pos c17] at H
            have c17b0 : decide (0 ≤ x9_2) = true := decide_eq_true c17
            clear c17
            obtain ⟨bq18, hbq18⟩ : ∃ b_ : Bool, b_ = (rdOf false x7_2 x9_2) := ⟨_, rfl⟩
            replace H : (if bq18 = true then ((rotaref08_named.f k2 l0_0 l0_1 l0_2 x9_2 a2).bind fun t439 => (rotaref08_calls.l2 k2 a2 x7_2 x8_2 x9_2 t439 0 l0_0 l0_1 l0_2)) else (rotaref08_calls.l1 k2 a2 x7_2 x8_2 (wrap64 (x9_2 + 1)) l0_0 l0_1 l0_2)) = some r := by rw [← hbq18] at H; exact H
            have Nbq18 := K1 hbq18
            clear hbq18
            by_cases c19 : bq18 = true
            ·subst c19
             have H1 : ((rotaref08_named.f k2 l0_0 l0_1 l0_2 x9_2 a2).bind fun t439 => (rotaref08_calls.l2 k2 a2 x7_2 x8_2 x9_2 t439 0 l0_0 l0_1 l0_2)) = some r := by rw [if_pos rfl] at H; exact H
             clear H
             have H := H1
             clear H1
             replace H := Option.bind_eq_some_iff.mp H
             obtain ⟨t439, A200, H⟩ := H
             replace H : (rotaref08_calls.l2 k2 a2 x7_2 x8_2 x9_2 t439 0 l0_0 l0_1 l0_2) = some r := H
             have A20 := K1 A200
             clear A200
             have H' := K1 H
             clear H
             have p438 : 0 ≤ (x9_2 : Int) := of_decide_eq_true (mA)
             have q438 : x9_2 < (x7_2.length : Int) := of_decide_eq_true (mA)
             obtain ⟨ad438, e438, hx438_0⟩ := Kd.at_bool (Kd.R_reads' HO_7.out).2.2 x9_2 p438 q438
             (try rw [← Nbq18.out] at hx438_0)
             obtain rfl : (⟨go8, 0, none⟩ : Addr) = ad438 := (by injection e438)
             (first | simp only [add_plain] at hx438_0 | simp only [add_at] at hx438_0 | simp only [Addr.add, Nat.zero_add] at hx438_0 | skip)
             replace p438 := eq_true p438
             replace q438 := eq_true q438
             obtain ⟨hcz21_0, hcz21_1, hcz21_2, hfz21_0, hfz21_1, hfz21_2⟩ := cf3 BK433
             go_wp2_with (first | ((with_reducible refine gate_callee (f := 50) rfl ?_); refine goesL_ (some 34) rfl rfl Try.func50 (by kernel_rfl) rfl #[.agg #[.slice A0_0 l0_0.length c0_0, .slice A0_1 l0_1.length c0_1, .slice A0_2 l0_2.length c0_2], .int .i64 x9_2, .bool a2] rfl mL ?_; (with_reducible refine (rotaref08_named.calls k2 _ _ l0_0 _ _ l0_1 _ _ l0_2 x9_2 a2 t439 _ ?side1 ?side2 ?side3 ?side4 ?side5 ?side6 A20.out).mono ?_); (case side1 => exact mC); (case side2 => exact HC0_0.out); (case side3 => exact mC); (case side4 => exact HC0_1.out); (case side5 => exact mC); (case side6 => exact HC0_2.out); rintro e w22 ⟨v440, rfl, ho0, hb⟩; refine ⟨_, rfl, ?_⟩; have HO441 := K1 (Kd.R_lower (Kd.R_new' ho0 (Kd.R_lt (mV HO_7.out))) (below_size mB)); replace HO_7 := K1 (Kd.R_elder' (mV HO_7.out) (Kd.R_base ho0) hb); replace BK433 := K1 (blk_below (mU BK433.out) hb); replace HB := K1 (below_step mB hb); (try clear hb); (try clear ho0)))
             go_loopg [8, 11] k2 (fun kq v8 v11 w' => ∃ (x7_3 : List Bool) (x8_3 : Bool) (x11_3 : Int), v8 = .bool x8_3 ∧ v11 = .int .i64 x11_3 ∧ Aside0 (rotaref08_calls.l2 kq a2 x7_3 x8_3 x9_2 t439 x11_3 l0_0 l0_1 l0_2 = some r) ∧ Aside0 (kq ≤ k2) ∧ Aside0 (Kd.R Kd.bool 4 w' w.heap.size (fun k_ => some k_ ≠ (v440 : Value).ownBlock) (.slice (some ⟨go8, 0, none⟩) x7_2.length co8) x7_3) ∧ Aside0 (Kd.R Kd.bool 4 w' w.heap.size (fun k_ => some k_ ≠ ((.slice (some ⟨go8, 0, none⟩) x7_2.length co8) : Value).ownBlock) v440 t439) ∧ Aside0 (w'.heap[gb433]? = some (.cells #[(.slice A0_0 l0_0.length c0_0), (.slice A0_1 l0_1.length c0_1), (.slice A0_2 l0_2.length c0_2)] 26 (0, 0))) ∧ Aside0 (Below w.heap.size w w'))
             case atStart => exact ⟨(x7_2), (x8_2), (0), (mF), (mF), H', ⟨Nat.le_refl _⟩, ⟨by (try simp only [hl7_1]); (try simp only [hl7_2]); (with_reducible repeat (first | apply Kd.R_alloc | apply Kd.R_drewN | apply Kd.R_drew)); exact Kd.R_mono HO_7.out (fun _ hk => hk.2)⟩, ⟨by (try simp only [hl7_1]); (try simp only [hl7_2]); (with_reducible repeat (first | apply Kd.R_alloc | apply Kd.R_drewN | apply Kd.R_drew)); exact Kd.R_mono HO441.out (fun _ hk => hk.2)⟩, ⟨by (try simp only [hl7_1]); (try simp only [hl7_2]); refine mU ?_; exact BK433.out⟩, ⟨mB⟩⟩
             case round =>
              clear H' c16b0 c17b0 hcz21_0 hcz21_1 hcz21_2 hfz21_0 hfz21_1 hfz21_2 hx438_0 p438 q438
              obtain ⟨x7_3, x8_3, x11_3, rfl, rfl, HA, HK3, HO_7, HO_10, BK433, HB⟩ := hrel
              have hl7_3 := (Kd.R_reads' HO_7.out).1
              rw [hl7_3] at HO_7
              (try simp only [hl7_3])
              (try simp only [hl7_3] at BK433)
              (try simp only [hl7_3] at HO_10)
              cases gk with
              | zero => exact absurd HA.out (by simp [rotaref08_calls.l2])
              | succ k3 =>
               have H := HA.out
               clear HA
               simp only [rotaref08_calls.l2] at H
               by_cases c23 : x11_3 < (t439.length : Int)
               ·rw [if_pos c23] at H
                have c23b0 : decide (x11_3 < (t439.length : Int)) = true := decide_eq_true c23
                clear c23
                by_cases c24 : x8_3 = true
                ·subst c24
                 have H1 : (if 0 ≤ x11_3 then (if x11_3 < (x7_3.length : Int) then (if rdOf false x7_3 x11_3 = true then (rotaref08_calls.l2 k3 a2 (x7_3.set (x11_3 : Int).toNat true) true x9_2 t439 (wrap64 (x11_3 + 1)) l0_0 l0_1 l0_2) else (rotaref08_calls.l2 k3 a2 (x7_3.set (x11_3 : Int).toNat (rdOf false t439 x11_3)) true x9_2 t439 (wrap64 (x11_3 + 1)) l0_0 l0_1 l0_2)) else (none)) else (none)) = some r := by rw [if_pos rfl] at H; exact H
                 clear H
                 have H := H1
                 clear H1
                 by_cases c25 : 0 ≤ x11_3
                 ·rw [if_pos c25] at H
                  have c25b0 : decide (0 ≤ x11_3) = true := decide_eq_true c25
                  clear c25
                  by_cases c26 : x11_3 < (x7_3.length : Int)
                  ·rw [if_pos c26] at H
                   have c26b0 : decide (x11_3 < (x7_3.length : Int)) = true := decide_eq_true c26
                   clear c26
                   obtain ⟨bq27, hbq27⟩ : ∃ b_ : Bool, b_ = (rdOf false x7_3 x11_3) := ⟨_, rfl⟩
                   replace H : (if bq27 = true then (rotaref08_calls.l2 k3 a2 (x7_3.set (x11_3 : Int).toNat true) true x9_2 t439 (wrap64 (x11_3 + 1)) l0_0 l0_1 l0_2) else (rotaref08_calls.l2 k3 a2 (x7_3.set (x11_3 : Int).toNat (rdOf false t439 x11_3)) true x9_2 t439 (wrap64 (x11_3 + 1)) l0_0 l0_1 l0_2)) = some r := by rw [← hbq27] at H; exact H
                   have Nbq27 := K1 hbq27
                   clear hbq27
                   by_cases c28 : bq27 = true
                   ·subst c28
                    have H1 : (rotaref08_calls.l2 k3 a2 (x7_3.set (x11_3 : Int).toNat true) true x9_2 t439 (wrap64 (x11_3 + 1)) l0_0 l0_1 l0_2) = some r := by rw [if_pos rfl] at H; exact H
                    clear H
                    have H := H1
                    clear H1
                    obtain ⟨y443, hy443⟩ : ∃ y_ : List Bool, y_ = (x7_3.set (x11_3 : Int).toNat true) := ⟨_, rfl⟩
                    replace H : (rotaref08_calls.l2 k3 a2 y443 true x9_2 t439 (wrap64 (x11_3 + 1)) l0_0 l0_1 l0_2) = some r := by first | (rw [hy443]; with_reducible exact H) | (have H2_ := (Option.bind_some _ _).symm.trans H; rw [hy443]; with_reducible exact H2_) | (have H2_ := (Option.bind_some _ _).symm.trans H; with_reducible exact H2_) | with_reducible exact H | (rw [hy443]; exact H) | exact H
                    have Ny443 := K1 hy443
                    clear hy443
                    have H' := K1 H
                    clear H
                    obtain ⟨Ao30, co30, eo30⟩ := Kd.R_slice HO_10.out
                    subst eo30
                    have p442 : 0 ≤ (x11_3 : Int) := of_decide_eq_true (mA)
                    have q442 : x11_3 < (x7_3.length : Int) := of_decide_eq_true (mA)
                    obtain ⟨ad442, e442, hx442_0⟩ := Kd.at_bool (Kd.R_reads' HO_7.out).2.2 x11_3 p442 q442
                    (try rw [← Nbq18.out] at hx442_0)
                    (try rw [← Nbq27.out] at hx442_0)
                    obtain rfl : (⟨go8, 0, none⟩ : Addr) = ad442 := (by injection e442)
                    (first | simp only [add_plain] at hx442_0 | simp only [add_at] at hx442_0 | simp only [Addr.add, Nat.zero_add] at hx442_0 | skip)
                    replace p442 := eq_true p442
                    replace q442 := eq_true q442
                    have p29 : 0 ≤ (x11_3 : Int) := of_decide_eq_true (mA)
                    have q29 : (x11_3 : Int) < ((x7_3.length : Int) : Int) := of_decide_eq_true (mA)
                    obtain ⟨hx29_0, hf29_0⟩ := Kd.R_celln false HO_7.out (x11_3 : Int) p29 q29
                    replace p29 := eq_true p29
                    replace q29 := eq_true q29
                    have HP31 := Kd.R_putg HO_7.out (x11_3 : Int) true
                    go_wp2_with (first | ((with_reducible refine gate_store (t := 4) (p := 67) rfl ?_); refine store_event (t := 4) (p := 67) (v := ?vo_w32) (w1 := (wr.setCell ⟨go8, (x11_3 : Int).toNat, none⟩ (.bool true))) ?hg ?ho ?hn ?hr ?_; (case ho => rfl); (case hg => rfl); (case hn => rfl); (case hr => first | (go_simp; done) | (go_simp; rfl)); intro w32 hw; have hg : wr.grownBy w32 (some go8) := (by rw [hw]; exact HP31.2); have hp_ : Kd.R Kd.bool 4 w32 w.heap.size (fun k_ => some k_ ≠ (.slice Ao30 t439.length co30 : Value).ownBlock) (.slice (some ⟨go8, 0, none⟩) x7_3.length co8) y443 := (by rw [hw, Ny443.out]; exact HP31.1); clear HP31; have n0_ := K1 (hp_); have n1_ := K1 (Kd.R_after (v := (.slice (some ⟨go8, 0, none⟩) x7_3.length co8)) (v1 := (.slice (some ⟨go8, 0, none⟩) x7_3.length co8)) (ok := (fun _ => True)) (by (with_reducible repeat (first | apply Kd.R_alloc | apply Kd.R_drewN | apply Kd.R_drew)); exact Kd.R_mono HO_10.out (fun _ hk => ⟨trivial, hk⟩)) hg (.inl rfl)); have n2_ := K1 (blk_grown (mU BK433.out) hg (Kd.R_ne HO_7.out BK433.out (by decide))); have n3_ := K1 ((by rw [hw]; exact below_set (HB.out) GB8.out : Below w.heap.size w w32)); clear HO_7; clear HO_10; clear BK433; clear HB; have HO_7 := n0_; have HO_10 := n1_; have BK433 := n2_; have HB := n3_; clear n0_ n1_ n2_ n3_; clear hg hw hp_))
                    (try simp only [← hl7_3])
                    go_roundg k3
                    case measure => have := HK1.out; have := HK2.out; have := HK3.out; omega
                    case rel => exact ⟨(y443), (true), (wrap64 (x11_3 + 1)), (mF), (mF), H', ⟨by have := HK1.out; have := HK2.out; have := HK3.out; omega⟩, ⟨by (try simp only [hl7_1]); (try simp only [hl7_2]); (try simp only [hl7_3]); (with_reducible repeat (first | apply Kd.R_alloc | apply Kd.R_drewN | apply Kd.R_drew)); exact HO_7.out⟩, ⟨by (try simp only [hl7_1]); (try simp only [hl7_2]); (try simp only [hl7_3]); (with_reducible repeat (first | apply Kd.R_alloc | apply Kd.R_drewN | apply Kd.R_drew)); exact Kd.R_mono HO_10.out (fun _ hk => hk.2)⟩, ⟨by (try simp only [hl7_1]); (try simp only [hl7_2]); (try simp only [hl7_3]); refine mU ?_; exact BK433.out⟩, ⟨mB⟩⟩
                   ·replace c28 := Bool.eq_false_iff.mpr c28
                    subst c28
                    have H1 : (rotaref08_calls.l2 k3 a2 (x7_3.set (x11_3 : Int).toNat (rdOf false t439 x11_3)) true x9_2 t439 (wrap64 (x11_3 + 1)) l0_0 l0_1 l0_2) = some r := by rw [if_neg (show ¬ (false = true) by decide)] at H; exact H
                    clear H
                    have H := H1
                    clear H1
                    obtain ⟨y445, hy445⟩ : ∃ y_ : List Bool, y_ = (x7_3.set (x11_3 : Int).toNat (rdOf false t439 x11_3)) := ⟨_, rfl⟩
                    replace H : (rotaref08_calls.l2 k3 a2 y445 true x9_2 t439 (wrap64 (x11_3 + 1)) l0_0 l0_1 l0_2) = some r := by first | (rw [hy445]; with_reducible exact H) | (have H2_ := (Option.bind_some _ _).symm.trans H; rw [hy445]; with_reducible exact H2_) | (have H2_ := (Option.bind_some _ _).symm.trans H; with_reducible exact H2_) | with_reducible exact H | (rw [hy445]; exact H) | exact H
                    have Ny445 := K1 hy445
                    clear hy445
                    have H' := K1 H
                    clear H
                    obtain ⟨Ao34, co34, eo34⟩ := Kd.R_slice HO_10.out
                    subst eo34
                    have p442 : 0 ≤ (x11_3 : Int) := of_decide_eq_true (mA)
                    have q442 : x11_3 < (x7_3.length : Int) := of_decide_eq_true (mA)
                    obtain ⟨ad442, e442, hx442_0⟩ := Kd.at_bool (Kd.R_reads' HO_7.out).2.2 x11_3 p442 q442
                    (try rw [← Nbq18.out] at hx442_0)
                    (try rw [← Nbq27.out] at hx442_0)
                    obtain rfl : (⟨go8, 0, none⟩ : Addr) = ad442 := (by injection e442)
                    (first | simp only [add_plain] at hx442_0 | simp only [add_at] at hx442_0 | simp only [Addr.add, Nat.zero_add] at hx442_0 | skip)
                    replace p442 := eq_true p442
                    replace q442 := eq_true q442
                    have p444 : 0 ≤ (x11_3 : Int) := of_decide_eq_true (mA)
                    have q444 : x11_3 < (t439.length : Int) := of_decide_eq_true (mA)
                    obtain ⟨ad444, e444, hx444_0⟩ := Kd.at_bool (Kd.R_reads' HO_10.out).2.2 x11_3 p444 q444
                    (try rw [← Nbq18.out] at hx444_0)
                    (try rw [← Nbq27.out] at hx444_0)
                    cases e444
                    replace p444 := eq_true p444
                    replace q444 := eq_true q444
                    have p33 : 0 ≤ (x11_3 : Int) := of_decide_eq_true (mA)
                    have q33 : (x11_3 : Int) < ((x7_3.length : Int) : Int) := of_decide_eq_true (mA)
                    obtain ⟨hx33_0, hf33_0⟩ := Kd.R_celln false HO_7.out (x11_3 : Int) p33 q33
                    replace p33 := eq_true p33
                    replace q33 := eq_true q33
                    have HP35 := Kd.R_putg HO_7.out (x11_3 : Int) (rdOf false t439 x11_3)
                    go_wp2_with (first | ((with_reducible refine gate_store (t := 4) (p := 67) rfl ?_); refine store_event (t := 4) (p := 67) (v := ?vo_w36) (w1 := (wr.setCell ⟨go8, (x11_3 : Int).toNat, none⟩ (.bool (rdOf false t439 x11_3)))) ?hg ?ho ?hn ?hr ?_; (case ho => rfl); (case hg => rfl); (case hn => rfl); (case hr => first | (go_simp; done) | (go_simp; rfl)); intro w36 hw; have hg : wr.grownBy w36 (some go8) := (by rw [hw]; exact HP35.2); have hp_ : Kd.R Kd.bool 4 w36 w.heap.size (fun k_ => some k_ ≠ (.slice (some ad444) t439.length co34 : Value).ownBlock) (.slice (some ⟨go8, 0, none⟩) x7_3.length co8) y445 := (by rw [hw, Ny445.out]; exact HP35.1); clear HP35; have n0_ := K1 (hp_); have n1_ := K1 (Kd.R_after (v := (.slice (some ⟨go8, 0, none⟩) x7_3.length co8)) (v1 := (.slice (some ⟨go8, 0, none⟩) x7_3.length co8)) (ok := (fun _ => True)) (by (with_reducible repeat (first | apply Kd.R_alloc | apply Kd.R_drewN | apply Kd.R_drew)); exact Kd.R_mono HO_10.out (fun _ hk => ⟨trivial, hk⟩)) hg (.inl rfl)); have n2_ := K1 (blk_grown (mU BK433.out) hg (Kd.R_ne HO_7.out BK433.out (by decide))); have n3_ := K1 ((by rw [hw]; exact below_set (HB.out) GB8.out : Below w.heap.size w w36)); clear HO_7; clear HO_10; clear BK433; clear HB; have HO_7 := n0_; have HO_10 := n1_; have BK433 := n2_; have HB := n3_; clear n0_ n1_ n2_ n3_; clear hg hw hp_))
                    (try simp only [← hl7_3])
                    go_roundg k3
                    case measure => have := HK1.out; have := HK2.out; have := HK3.out; omega
                    case rel => exact ⟨(y445), (true), (wrap64 (x11_3 + 1)), (mF), (mF), H', ⟨by have := HK1.out; have := HK2.out; have := HK3.out; omega⟩, ⟨by (try simp only [hl7_1]); (try simp only [hl7_2]); (try simp only [hl7_3]); (with_reducible repeat (first | apply Kd.R_alloc | apply Kd.R_drewN | apply Kd.R_drew)); exact HO_7.out⟩, ⟨by (try simp only [hl7_1]); (try simp only [hl7_2]); (try simp only [hl7_3]); (with_reducible repeat (first | apply Kd.R_alloc | apply Kd.R_drewN | apply Kd.R_drew)); exact Kd.R_mono HO_10.out (fun _ hk => hk.2)⟩, ⟨by (try simp only [hl7_1]); (try simp only [hl7_2]); (try simp only [hl7_3]); refine mU ?_; exact BK433.out⟩, ⟨mB⟩⟩
                  ·rw [if_neg c26] at H
                   exact absurd H (by simp)
                 ·rw [if_neg c25] at H
                  exact absurd H (by simp)
                ·replace c24 := Bool.eq_false_iff.mpr c24
                 subst c24
                 have H1 : (if 0 ≤ x11_3 then (if rdOf false t439 x11_3 = true then (if x11_3 < (x7_3.length : Int) then (if rdOf false x7_3 x11_3 = true then (rotaref08_calls.l2 k3 a2 (x7_3.set (x11_3 : Int).toNat true) (!(rdOf false x7_3 x11_3)) x9_2 t439 (wrap64 (x11_3 + 1)) l0_0 l0_1 l0_2) else (rotaref08_calls.l2 k3 a2 (x7_3.set (x11_3 : Int).toNat (rdOf false t439 x11_3)) (!(rdOf false x7_3 x11_3)) x9_2 t439 (wrap64 (x11_3 + 1)) l0_0 l0_1 l0_2)) else (none)) else (if x11_3 < (x7_3.length : Int) then (if rdOf false x7_3 x11_3 = true then (rotaref08_calls.l2 k3 a2 (x7_3.set (x11_3 : Int).toNat true) false x9_2 t439 (wrap64 (x11_3 + 1)) l0_0 l0_1 l0_2) else (rotaref08_calls.l2 k3 a2 (x7_3.set (x11_3 : Int).toNat (rdOf false t439 x11_3)) false x9_2 t439 (wrap64 (x11_3 + 1)) l0_0 l0_1 l0_2)) else (none))) else (none)) = some r := by rw [if_neg (show ¬ (false = true) by decide)] at H; exact H
                 clear H
                 have H := H1
                 clear H1
                 by_cases c37 : 0 ≤ x11_3
                 ·rw [if_pos c37] at H
                  have c37b0 : decide (0 ≤ x11_3) = true := decide_eq_true c37
                  clear c37
                  obtain ⟨bq38, hbq38⟩ : ∃ b_ : Bool, b_ = (rdOf false t439 x11_3) := ⟨_, rfl⟩
                  replace H : (if bq38 = true then (if x11_3 < (x7_3.length : Int) then (if rdOf false x7_3 x11_3 = true then (rotaref08_calls.l2 k3 a2 (x7_3.set (x11_3 : Int).toNat true) (!(rdOf false x7_3 x11_3)) x9_2 t439 (wrap64 (x11_3 + 1)) l0_0 l0_1 l0_2) else (rotaref08_calls.l2 k3 a2 (x7_3.set (x11_3 : Int).toNat (bq38)) (!(rdOf false x7_3 x11_3)) x9_2 t439 (wrap64 (x11_3 + 1)) l0_0 l0_1 l0_2)) else (none)) else (if x11_3 < (x7_3.length : Int) then (if rdOf false x7_3 x11_3 = true then (rotaref08_calls.l2 k3 a2 (x7_3.set (x11_3 : Int).toNat true) false x9_2 t439 (wrap64 (x11_3 + 1)) l0_0 l0_1 l0_2) else (rotaref08_calls.l2 k3 a2 (x7_3.set (x11_3 : Int).toNat (bq38)) false x9_2 t439 (wrap64 (x11_3 + 1)) l0_0 l0_1 l0_2)) else (none))) = some r := by rw [← hbq38] at H; exact H
                  have Nbq38 := K1 hbq38
                  clear hbq38
                  by_cases c39 : bq38 = true
                  ·subst c39
                   have H1 : (if x11_3 < (x7_3.length : Int) then (if rdOf false x7_3 x11_3 = true then (rotaref08_calls.l2 k3 a2 (x7_3.set (x11_3 : Int).toNat true) (!(rdOf false x7_3 x11_3)) x9_2 t439 (wrap64 (x11_3 + 1)) l0_0 l0_1 l0_2) else (rotaref08_calls.l2 k3 a2 (x7_3.set (x11_3 : Int).toNat (true)) (!(rdOf false x7_3 x11_3)) x9_2 t439 (wrap64 (x11_3 + 1)) l0_0 l0_1 l0_2)) else (none)) = some r := by rw [if_pos rfl] at H; exact H
                   clear H
                   have H := H1
                   clear H1
                   by_cases c40 : x11_3 < (x7_3.length : Int)
                   ·rw [if_pos c40] at H
                    have c40b0 : decide (x11_3 < (x7_3.length : Int)) = true := decide_eq_true c40
                    clear c40
                    obtain ⟨bq41, hbq41⟩ : ∃ b_ : Bool, b_ = (rdOf false x7_3 x11_3) := ⟨_, rfl⟩
                    replace H : (if bq41 = true then (rotaref08_calls.l2 k3 a2 (x7_3.set (x11_3 : Int).toNat true) (!(bq41)) x9_2 t439 (wrap64 (x11_3 + 1)) l0_0 l0_1 l0_2) else (rotaref08_calls.l2 k3 a2 (x7_3.set (x11_3 : Int).toNat (true)) (!(bq41)) x9_2 t439 (wrap64 (x11_3 + 1)) l0_0 l0_1 l0_2)) = some r := by rw [← hbq41] at H; exact H
                    have Nbq41 := K1 hbq41
                    clear hbq41
                    by_cases c42 : bq41 = true
                    ·subst c42
                     have H1 : (rotaref08_calls.l2 k3 a2 (x7_3.set (x11_3 : Int).toNat true) (!(true)) x9_2 t439 (wrap64 (x11_3 + 1)) l0_0 l0_1 l0_2) = some r := by rw [if_pos rfl] at H; exact H
                     clear H
                     have H := H1
                     clear H1
                     obtain ⟨y449, hy449⟩ : ∃ y_ : List Bool, y_ = (x7_3.set (x11_3 : Int).toNat true) := ⟨_, rfl⟩
                     replace H : (rotaref08_calls.l2 k3 a2 y449 (!(true)) x9_2 t439 (wrap64 (x11_3 + 1)) l0_0 l0_1 l0_2) = some r := by first | (rw [hy449]; with_reducible exact H) | (have H2_ := (Option.bind_some _ _).symm.trans H; rw [hy449]; with_reducible exact H2_) | (have H2_ := (Option.bind_some _ _).symm.trans H; with_reducible exact H2_) | with_reducible exact H | (rw [hy449]; exact H) | exact H
                     have Ny449 := K1 hy449
                     clear hy449
                     have H' := K1 H
                     clear H
                     obtain ⟨Ao44, co44, eo44⟩ := Kd.R_slice HO_10.out
                     subst eo44
                     have p446 : 0 ≤ (x11_3 : Int) := of_decide_eq_true (mA)
                     have q446 : x11_3 < (t439.length : Int) := of_decide_eq_true (mA)
                     obtain ⟨ad446, e446, hx446_0⟩ := Kd.at_bool (Kd.R_reads' HO_10.out).2.2 x11_3 p446 q446
                     (try rw [← Nbq18.out] at hx446_0)
                     (try rw [← Nbq38.out] at hx446_0)
                     (try rw [← Nbq41.out] at hx446_0)
                     cases e446
                     replace p446 := eq_true p446
                     replace q446 := eq_true q446
                     have p447 : 0 ≤ (x11_3 : Int) := of_decide_eq_true (mA)
                     have q447 : x11_3 < (x7_3.length : Int) := of_decide_eq_true (mA)
                     obtain ⟨ad447, e447, hx447_0⟩ := Kd.at_bool (Kd.R_reads' HO_7.out).2.2 x11_3 p447 q447
                     (try rw [← Nbq18.out] at hx447_0)
                     (try rw [← Nbq38.out] at hx447_0)
                     (try rw [← Nbq41.out] at hx447_0)
                     obtain rfl : (⟨go8, 0, none⟩ : Addr) = ad447 := (by injection e447)
                     (first | simp only [add_plain] at hx447_0 | simp only [add_at] at hx447_0 | simp only [Addr.add, Nat.zero_add] at hx447_0 | skip)
                     replace p447 := eq_true p447
                     replace q447 := eq_true q447
                     have p448 : 0 ≤ (x11_3 : Int) := of_decide_eq_true (mA)
                     have q448 : x11_3 < (x7_3.length : Int) := of_decide_eq_true (mA)
                     obtain ⟨ad448, e448, hx448_0⟩ := Kd.at_bool (Kd.R_reads' HO_7.out).2.2 x11_3 p448 q448
                     (try rw [← Nbq18.out] at hx448_0)
                     (try rw [← Nbq38.out] at hx448_0)
                     (try rw [← Nbq41.out] at hx448_0)
                     obtain rfl : (⟨go8, 0, none⟩ : Addr) = ad448 := (by injection e448)
                     (first | simp only [add_plain] at hx448_0 | simp only [add_at] at hx448_0 | simp only [Addr.add, Nat.zero_add] at hx448_0 | skip)
                     replace p448 := eq_true p448
                     replace q448 := eq_true q448
                     have p43 : 0 ≤ (x11_3 : Int) := of_decide_eq_true (mA)
                     have q43 : (x11_3 : Int) < ((x7_3.length : Int) : Int) := of_decide_eq_true (mA)
                     obtain ⟨hx43_0, hf43_0⟩ := Kd.R_celln false HO_7.out (x11_3 : Int) p43 q43
                     replace p43 := eq_true p43
                     replace q43 := eq_true q43
                     have HP45 := Kd.R_putg HO_7.out (x11_3 : Int) true
                     go_wp2_with (first | ((with_reducible refine gate_store (t := 4) (p := 67) rfl ?_); refine store_event (t := 4) (p := 67) (v := ?vo_w46) (w1 := (wr.setCell ⟨go8, (x11_3 : Int).toNat, none⟩ (.bool true))) ?hg ?ho ?hn ?hr ?_; (case ho => rfl); (case hg => rfl); (case hn => rfl); (case hr => first | (go_simp; done) | (go_simp; rfl)); intro w46 hw; have hg : wr.grownBy w46 (some go8) := (by rw [hw]; exact HP45.2); have hp_ : Kd.R Kd.bool 4 w46 w.heap.size (fun k_ => some k_ ≠ (.slice (some ad446) t439.length co44 : Value).ownBlock) (.slice (some ⟨go8, 0, none⟩) x7_3.length co8) y449 := (by rw [hw, Ny449.out]; exact HP45.1); clear HP45; have n0_ := K1 (hp_); have n1_ := K1 (Kd.R_after (v := (.slice (some ⟨go8, 0, none⟩) x7_3.length co8)) (v1 := (.slice (some ⟨go8, 0, none⟩) x7_3.length co8)) (ok := (fun _ => True)) (by (with_reducible repeat (first | apply Kd.R_alloc | apply Kd.R_drewN | apply Kd.R_drew)); exact Kd.R_mono HO_10.out (fun _ hk => ⟨trivial, hk⟩)) hg (.inl rfl)); have n2_ := K1 (blk_grown (mU BK433.out) hg (Kd.R_ne HO_7.out BK433.out (by decide))); have n3_ := K1 ((by rw [hw]; exact below_set (HB.out) GB8.out : Below w.heap.size w w46)); clear HO_7; clear HO_10; clear BK433; clear HB; have HO_7 := n0_; have HO_10 := n1_; have BK433 := n2_; have HB := n3_; clear n0_ n1_ n2_ n3_; clear hg hw hp_))
                     (try simp only [← hl7_3])
                     go_roundg k3
                     case measure => have := HK1.out; have := HK2.out; have := HK3.out; omega
                     case rel => exact ⟨(y449), (!(true)), (wrap64 (x11_3 + 1)), (mF), (mF), H', ⟨by have := HK1.out; have := HK2.out; have := HK3.out; omega⟩, ⟨by (try simp only [hl7_1]); (try simp only [hl7_2]); (try simp only [hl7_3]); (with_reducible repeat (first | apply Kd.R_alloc | apply Kd.R_drewN | apply Kd.R_drew)); exact HO_7.out⟩, ⟨by (try simp only [hl7_1]); (try simp only [hl7_2]); (try simp only [hl7_3]); (with_reducible repeat (first | apply Kd.R_alloc | apply Kd.R_drewN | apply Kd.R_drew)); exact Kd.R_mono HO_10.out (fun _ hk => hk.2)⟩, ⟨by (try simp only [hl7_1]); (try simp only [hl7_2]); (try simp only [hl7_3]); refine mU ?_; exact BK433.out⟩, ⟨mB⟩⟩
                    ·replace c42 := Bool.eq_false_iff.mpr c42
                     subst c42
                     have H1 : (rotaref08_calls.l2 k3 a2 (x7_3.set (x11_3 : Int).toNat (true)) (!(false)) x9_2 t439 (wrap64 (x11_3 + 1)) l0_0 l0_1 l0_2) = some r := by rw [if_neg (show ¬ (false = true) by decide)] at H; exact H
                     clear H
                     have H := H1
                     clear H1
                     obtain ⟨y451, hy451⟩ : ∃ y_ : List Bool, y_ = (x7_3.set (x11_3 : Int).toNat (true)) := ⟨_, rfl⟩
                     replace H : (rotaref08_calls.l2 k3 a2 y451 (!(false)) x9_2 t439 (wrap64 (x11_3 + 1)) l0_0 l0_1 l0_2) = some r := by first | (rw [hy451]; with_reducible exact H) | (have H2_ := (Option.bind_some _ _).symm.trans H; rw [hy451]; with_reducible exact H2_) | (have H2_ := (Option.bind_some _ _).symm.trans H; with_reducible exact H2_) | with_reducible exact H | (rw [hy451]; exact H) | exact H
                     have Ny451 := K1 hy451
                     clear hy451
                     have H' := K1 H
                     clear H
                     obtain ⟨Ao48, co48, eo48⟩ := Kd.R_slice HO_10.out
                     subst eo48
                     have p446 : 0 ≤ (x11_3 : Int) := of_decide_eq_true (mA)
                     have q446 : x11_3 < (t439.length : Int) := of_decide_eq_true (mA)
                     obtain ⟨ad446, e446, hx446_0⟩ := Kd.at_bool (Kd.R_reads' HO_10.out).2.2 x11_3 p446 q446
                     (try rw [← Nbq18.out] at hx446_0)
                     (try rw [← Nbq38.out] at hx446_0)
                     (try rw [← Nbq41.out] at hx446_0)
                     cases e446
                     replace p446 := eq_true p446
                     replace q446 := eq_true q446
                     have p447 : 0 ≤ (x11_3 : Int) := of_decide_eq_true (mA)
                     have q447 : x11_3 < (x7_3.length : Int) := of_decide_eq_true (mA)
                     obtain ⟨ad447, e447, hx447_0⟩ := Kd.at_bool (Kd.R_reads' HO_7.out).2.2 x11_3 p447 q447
                     (try rw [← Nbq18.out] at hx447_0)
                     (try rw [← Nbq38.out] at hx447_0)
                     (try rw [← Nbq41.out] at hx447_0)
                     obtain rfl : (⟨go8, 0, none⟩ : Addr) = ad447 := (by injection e447)
                     (first | simp only [add_plain] at hx447_0 | simp only [add_at] at hx447_0 | simp only [Addr.add, Nat.zero_add] at hx447_0 | skip)
                     replace p447 := eq_true p447
                     replace q447 := eq_true q447
                     have p448 : 0 ≤ (x11_3 : Int) := of_decide_eq_true (mA)
                     have q448 : x11_3 < (x7_3.length : Int) := of_decide_eq_true (mA)
                     obtain ⟨ad448, e448, hx448_0⟩ := Kd.at_bool (Kd.R_reads' HO_7.out).2.2 x11_3 p448 q448
                     (try rw [← Nbq18.out] at hx448_0)
                     (try rw [← Nbq38.out] at hx448_0)
                     (try rw [← Nbq41.out] at hx448_0)
                     obtain rfl : (⟨go8, 0, none⟩ : Addr) = ad448 := (by injection e448)
                     (first | simp only [add_plain] at hx448_0 | simp only [add_at] at hx448_0 | simp only [Addr.add, Nat.zero_add] at hx448_0 | skip)
                     replace p448 := eq_true p448
                     replace q448 := eq_true q448
                     have p450 : 0 ≤ (x11_3 : Int) := of_decide_eq_true (mA)
                     have q450 : x11_3 < (t439.length : Int) := of_decide_eq_true (mA)
                     obtain ⟨ad450, e450, hx450_0⟩ := Kd.at_bool (Kd.R_reads' HO_10.out).2.2 x11_3 p450 q450
                     (try rw [← Nbq18.out] at hx450_0)
                     (try rw [← Nbq38.out] at hx450_0)
                     (try rw [← Nbq41.out] at hx450_0)
                     obtain rfl : ad446 = ad450 := (by injection e450)
                     replace p450 := eq_true p450
                     replace q450 := eq_true q450
                     have p47 : 0 ≤ (x11_3 : Int) := of_decide_eq_true (mA)
                     have q47 : (x11_3 : Int) < ((x7_3.length : Int) : Int) := of_decide_eq_true (mA)
                     obtain ⟨hx47_0, hf47_0⟩ := Kd.R_celln false HO_7.out (x11_3 : Int) p47 q47
                     replace p47 := eq_true p47
                     replace q47 := eq_true q47
                     have HP49 := Kd.R_putg HO_7.out (x11_3 : Int) true
                     go_wp2_with (first | ((with_reducible refine gate_store (t := 4) (p := 67) rfl ?_); refine store_event (t := 4) (p := 67) (v := ?vo_w50) (w1 := (wr.setCell ⟨go8, (x11_3 : Int).toNat, none⟩ (.bool true))) ?hg ?ho ?hn ?hr ?_; (case ho => rfl); (case hg => rfl); (case hn => rfl); (case hr => first | (go_simp; done) | (go_simp; rfl)); intro w50 hw; have hg : wr.grownBy w50 (some go8) := (by rw [hw]; exact HP49.2); have hp_ : Kd.R Kd.bool 4 w50 w.heap.size (fun k_ => some k_ ≠ (.slice (some ad446) t439.length co48 : Value).ownBlock) (.slice (some ⟨go8, 0, none⟩) x7_3.length co8) y451 := (by rw [hw, Ny451.out]; exact HP49.1); clear HP49; have n0_ := K1 (hp_); have n1_ := K1 (Kd.R_after (v := (.slice (some ⟨go8, 0, none⟩) x7_3.length co8)) (v1 := (.slice (some ⟨go8, 0, none⟩) x7_3.length co8)) (ok := (fun _ => True)) (by (with_reducible repeat (first | apply Kd.R_alloc | apply Kd.R_drewN | apply Kd.R_drew)); exact Kd.R_mono HO_10.out (fun _ hk => ⟨trivial, hk⟩)) hg (.inl rfl)); have n2_ := K1 (blk_grown (mU BK433.out) hg (Kd.R_ne HO_7.out BK433.out (by decide))); have n3_ := K1 ((by rw [hw]; exact below_set (HB.out) GB8.out : Below w.heap.size w w50)); clear HO_7; clear HO_10; clear BK433; clear HB; have HO_7 := n0_; have HO_10 := n1_; have BK433 := n2_; have HB := n3_; clear n0_ n1_ n2_ n3_; clear hg hw hp_))
                     (try simp only [← hl7_3])
                     go_roundg k3
                     case measure => have := HK1.out; have := HK2.out; have := HK3.out; omega
                     case rel => exact ⟨(y451), (!(false)), (wrap64 (x11_3 + 1)), (mF), (mF), H', ⟨by have := HK1.out; have := HK2.out; have := HK3.out; omega⟩, ⟨by (try simp only [hl7_1]); (try simp only [hl7_2]); (try simp only [hl7_3]); (with_reducible repeat (first | apply Kd.R_alloc | apply Kd.R_drewN | apply Kd.R_drew)); exact HO_7.out⟩, ⟨by (try simp only [hl7_1]); (try simp only [hl7_2]); (try simp only [hl7_3]); (with_reducible repeat (first | apply Kd.R_alloc | apply Kd.R_drewN | apply Kd.R_drew)); exact Kd.R_mono HO_10.out (fun _ hk => hk.2)⟩, ⟨by (try simp only [hl7_1]); (try simp only [hl7_2]); (try simp only [hl7_3]); refine mU ?_; exact BK433.out⟩, ⟨mB⟩⟩
                   ·rw [if_neg c40] at H
                    exact absurd H (by simp)
                  ·replace c39 := Bool.eq_false_iff.mpr c39
                   subst c39
                   have H1 : (if x11_3 < (x7_3.length : Int) then (if rdOf false x7_3 x11_3 = true then (rotaref08_calls.l2 k3 a2 (x7_3.set (x11_3 : Int).toNat true) false x9_2 t439 (wrap64 (x11_3 + 1)) l0_0 l0_1 l0_2) else (rotaref08_calls.l2 k3 a2 (x7_3.set (x11_3 : Int).toNat (false)) false x9_2 t439 (wrap64 (x11_3 + 1)) l0_0 l0_1 l0_2)) else (none)) = some r := by rw [if_neg (show ¬ (false = true) by decide)] at H; exact H
                   clear H
                   have H := H1
                   clear H1
                   by_cases c51 : x11_3 < (x7_3.length : Int)
                   ·rw [if_pos c51] at H
                    have c51b0 : decide (x11_3 < (x7_3.length : Int)) = true := decide_eq_true c51
                    clear c51
                    obtain ⟨bq52, hbq52⟩ : ∃ b_ : Bool, b_ = (rdOf false x7_3 x11_3) := ⟨_, rfl⟩
                    replace H : (if bq52 = true then (rotaref08_calls.l2 k3 a2 (x7_3.set (x11_3 : Int).toNat true) false x9_2 t439 (wrap64 (x11_3 + 1)) l0_0 l0_1 l0_2) else (rotaref08_calls.l2 k3 a2 (x7_3.set (x11_3 : Int).toNat (false)) false x9_2 t439 (wrap64 (x11_3 + 1)) l0_0 l0_1 l0_2)) = some r := by rw [← hbq52] at H; exact H
                    have Nbq52 := K1 hbq52
                    clear hbq52
                    by_cases c53 : bq52 = true
                    ·subst c53
                     have H1 : (rotaref08_calls.l2 k3 a2 (x7_3.set (x11_3 : Int).toNat true) false x9_2 t439 (wrap64 (x11_3 + 1)) l0_0 l0_1 l0_2) = some r := by rw [if_pos rfl] at H; exact H
                     clear H
                     have H := H1
                     clear H1
                     obtain ⟨y453, hy453⟩ : ∃ y_ : List Bool, y_ = (x7_3.set (x11_3 : Int).toNat true) := ⟨_, rfl⟩
                     replace H : (rotaref08_calls.l2 k3 a2 y453 false x9_2 t439 (wrap64 (x11_3 + 1)) l0_0 l0_1 l0_2) = some r := by first | (rw [hy453]; with_reducible exact H) | (have H2_ := (Option.bind_some _ _).symm.trans H; rw [hy453]; with_reducible exact H2_) | (have H2_ := (Option.bind_some _ _).symm.trans H; with_reducible exact H2_) | with_reducible exact H | (rw [hy453]; exact H) | exact H
                     have Ny453 := K1 hy453
                     clear hy453
                     have H' := K1 H
                     clear H
                     obtain ⟨Ao55, co55, eo55⟩ := Kd.R_slice HO_10.out
                     subst eo55
                     have p446 : 0 ≤ (x11_3 : Int) := of_decide_eq_true (mA)
                     have q446 : x11_3 < (t439.length : Int) := of_decide_eq_true (mA)
                     obtain ⟨ad446, e446, hx446_0⟩ := Kd.at_bool (Kd.R_reads' HO_10.out).2.2 x11_3 p446 q446
                     (try rw [← Nbq18.out] at hx446_0)
                     (try rw [← Nbq38.out] at hx446_0)
                     (try rw [← Nbq52.out] at hx446_0)
                     cases e446
                     replace p446 := eq_true p446
                     replace q446 := eq_true q446
                     have p452 : 0 ≤ (x11_3 : Int) := of_decide_eq_true (mA)
                     have q452 : x11_3 < (x7_3.length : Int) := of_decide_eq_true (mA)
                     obtain ⟨ad452, e452, hx452_0⟩ := Kd.at_bool (Kd.R_reads' HO_7.out).2.2 x11_3 p452 q452
                     (try rw [← Nbq18.out] at hx452_0)
                     (try rw [← Nbq38.out] at hx452_0)
                     (try rw [← Nbq52.out] at hx452_0)
                     obtain rfl : (⟨go8, 0, none⟩ : Addr) = ad452 := (by injection e452)
                     (first | simp only [add_plain] at hx452_0 | simp only [add_at] at hx452_0 | simp only [Addr.add, Nat.zero_add] at hx452_0 | skip)
                     replace p452 := eq_true p452
                     replace q452 := eq_true q452
                     have p54 : 0 ≤ (x11_3 : Int) := of_decide_eq_true (mA)
                     have q54 : (x11_3 : Int) < ((x7_3.length : Int) : Int) := of_decide_eq_true (mA)
                     obtain ⟨hx54_0, hf54_0⟩ := Kd.R_celln false HO_7.out (x11_3 : Int) p54 q54
                     replace p54 := eq_true p54
                     replace q54 := eq_true q54
                     have HP56 := Kd.R_putg HO_7.out (x11_3 : Int) true
                     go_wp2_with (first | ((with_reducible refine gate_store (t := 4) (p := 67) rfl ?_); refine store_event (t := 4) (p := 67) (v := ?vo_w57) (w1 := (wr.setCell ⟨go8, (x11_3 : Int).toNat, none⟩ (.bool true))) ?hg ?ho ?hn ?hr ?_; (case ho => rfl); (case hg => rfl); (case hn => rfl); (case hr => first | (go_simp; done) | (go_simp; rfl)); intro w57 hw; have hg : wr.grownBy w57 (some go8) := (by rw [hw]; exact HP56.2); have hp_ : Kd.R Kd.bool 4 w57 w.heap.size (fun k_ => some k_ ≠ (.slice (some ad446) t439.length co55 : Value).ownBlock) (.slice (some ⟨go8, 0, none⟩) x7_3.length co8) y453 := (by rw [hw, Ny453.out]; exact HP56.1); clear HP56; have n0_ := K1 (hp_); have n1_ := K1 (Kd.R_after (v := (.slice (some ⟨go8, 0, none⟩) x7_3.length co8)) (v1 := (.slice (some ⟨go8, 0, none⟩) x7_3.length co8)) (ok := (fun _ => True)) (by (with_reducible repeat (first | apply Kd.R_alloc | apply Kd.R_drewN | apply Kd.R_drew)); exact Kd.R_mono HO_10.out (fun _ hk => ⟨trivial, hk⟩)) hg (.inl rfl)); have n2_ := K1 (blk_grown (mU BK433.out) hg (Kd.R_ne HO_7.out BK433.out (by decide))); have n3_ := K1 ((by rw [hw]; exact below_set (HB.out) GB8.out : Below w.heap.size w w57)); clear HO_7; clear HO_10; clear BK433; clear HB; have HO_7 := n0_; have HO_10 := n1_; have BK433 := n2_; have HB := n3_; clear n0_ n1_ n2_ n3_; clear hg hw hp_))
                     (try simp only [← hl7_3])
                     go_roundg k3
                     case measure => have := HK1.out; have := HK2.out; have := HK3.out; omega
                     case rel => exact ⟨(y453), (false), (wrap64 (x11_3 + 1)), (mF), (mF), H', ⟨by have := HK1.out; have := HK2.out; have := HK3.out; omega⟩, ⟨by (try simp only [hl7_1]); (try simp only [hl7_2]); (try simp only [hl7_3]); (with_reducible repeat (first | apply Kd.R_alloc | apply Kd.R_drewN | apply Kd.R_drew)); exact HO_7.out⟩, ⟨by (try simp only [hl7_1]); (try simp only [hl7_2]); (try simp only [hl7_3]); (with_reducible repeat (first | apply Kd.R_alloc | apply Kd.R_drewN | apply Kd.R_drew)); exact Kd.R_mono HO_10.out (fun _ hk => hk.2)⟩, ⟨by (try simp only [hl7_1]); (try simp only [hl7_2]); (try simp only [hl7_3]); refine mU ?_; exact BK433.out⟩, ⟨mB⟩⟩
                    ·replace c53 := Bool.eq_false_iff.mpr c53
                     subst c53
                     have H1 : (rotaref08_calls.l2 k3 a2 (x7_3.set (x11_3 : Int).toNat (false)) false x9_2 t439 (wrap64 (x11_3 + 1)) l0_0 l0_1 l0_2) = some r := by rw [if_neg (show ¬ (false = true) by decide)] at H; exact H
                     clear H
                     have H := H1
                     clear H1
                     obtain ⟨y455, hy455⟩ : ∃ y_ : List Bool, y_ = (x7_3.set (x11_3 : Int).toNat (false)) := ⟨_, rfl⟩
                     replace H : (rotaref08_calls.l2 k3 a2 y455 false x9_2 t439 (wrap64 (x11_3 + 1)) l0_0 l0_1 l0_2) = some r := by first | (rw [hy455]; with_reducible exact H) | (have H2_ := (Option.bind_some _ _).symm.trans H; rw [hy455]; with_reducible exact H2_) | (have H2_ := (Option.bind_some _ _).symm.trans H; with_reducible exact H2_) | with_reducible exact H | (rw [hy455]; exact H) | exact H
                     have Ny455 := K1 hy455
                     clear hy455
                     have H' := K1 H
                     clear H
                     obtain ⟨Ao59, co59, eo59⟩ := Kd.R_slice HO_10.out
                     subst eo59
                     have p446 : 0 ≤ (x11_3 : Int) := of_decide_eq_true (mA)
                     have q446 : x11_3 < (t439.length : Int) := of_decide_eq_true (mA)
                     obtain ⟨ad446, e446, hx446_0⟩ := Kd.at_bool (Kd.R_reads' HO_10.out).2.2 x11_3 p446 q446
                     (try rw [← Nbq18.out] at hx446_0)
                     (try rw [← Nbq38.out] at hx446_0)
                     (try rw [← Nbq52.out] at hx446_0)
                     cases e446
                     replace p446 := eq_true p446
                     replace q446 := eq_true q446
                     have p452 : 0 ≤ (x11_3 : Int) := of_decide_eq_true (mA)
                     have q452 : x11_3 < (x7_3.length : Int) := of_decide_eq_true (mA)
                     obtain ⟨ad452, e452, hx452_0⟩ := Kd.at_bool (Kd.R_reads' HO_7.out).2.2 x11_3 p452 q452
                     (try rw [← Nbq18.out] at hx452_0)
                     (try rw [← Nbq38.out] at hx452_0)
                     (try rw [← Nbq52.out] at hx452_0)
                     obtain rfl : (⟨go8, 0, none⟩ : Addr) = ad452 := (by injection e452)
                     (first | simp only [add_plain] at hx452_0 | simp only [add_at] at hx452_0 | simp only [Addr.add, Nat.zero_add] at hx452_0 | skip)
                     replace p452 := eq_true p452
                     replace q452 := eq_true q452
                     have p454 : 0 ≤ (x11_3 : Int) := of_decide_eq_true (mA)
                     have q454 : x11_3 < (t439.length : Int) := of_decide_eq_true (mA)
                     obtain ⟨ad454, e454, hx454_0⟩ := Kd.at_bool (Kd.R_reads' HO_10.out).2.2 x11_3 p454 q454
                     (try rw [← Nbq18.out] at hx454_0)
                     (try rw [← Nbq38.out] at hx454_0)
                     (try rw [← Nbq52.out] at hx454_0)
                     obtain rfl : ad446 = ad454 := (by injection e454)
                     replace p454 := eq_true p454
                     replace q454 := eq_true q454
                     have p58 : 0 ≤ (x11_3 : Int) := of_decide_eq_true (mA)
                     have q58 : (x11_3 : Int) < ((x7_3.length : Int) : Int) := of_decide_eq_true (mA)
                     obtain ⟨hx58_0, hf58_0⟩ := Kd.R_celln false HO_7.out (x11_3 : Int) p58 q58
                     replace p58 := eq_true p58
                     replace q58 := eq_true q58
                     have HP60 := Kd.R_putg HO_7.out (x11_3 : Int) false
                     go_wp2_with (first | ((with_reducible refine gate_store (t := 4) (p := 67) rfl ?_); refine store_event (t := 4) (p := 67) (v := ?vo_w61) (w1 := (wr.setCell ⟨go8, (x11_3 : Int).toNat, none⟩ (.bool false))) ?hg ?ho ?hn ?hr ?_; (case ho => rfl); (case hg => rfl); (case hn => rfl); (case hr => first | (go_simp; done) | (go_simp; rfl)); intro w61 hw; have hg : wr.grownBy w61 (some go8) := (by rw [hw]; exact HP60.2); have hp_ : Kd.R Kd.bool 4 w61 w.heap.size (fun k_ => some k_ ≠ (.slice (some ad446) t439.length co59 : Value).ownBlock) (.slice (some ⟨go8, 0, none⟩) x7_3.length co8) y455 := (by rw [hw, Ny455.out]; exact HP60.1); clear HP60; have n0_ := K1 (hp_); have n1_ := K1 (Kd.R_after (v := (.slice (some ⟨go8, 0, none⟩) x7_3.length co8)) (v1 := (.slice (some ⟨go8, 0, none⟩) x7_3.length co8)) (ok := (fun _ => True)) (by (with_reducible repeat (first | apply Kd.R_alloc | apply Kd.R_drewN | apply Kd.R_drew)); exact Kd.R_mono HO_10.out (fun _ hk => ⟨trivial, hk⟩)) hg (.inl rfl)); have n2_ := K1 (blk_grown (mU BK433.out) hg (Kd.R_ne HO_7.out BK433.out (by decide))); have n3_ := K1 ((by rw [hw]; exact below_set (HB.out) GB8.out : Below w.heap.size w w61)); clear HO_7; clear HO_10; clear BK433; clear HB; have HO_7 := n0_; have HO_10 := n1_; have BK433 := n2_; have HB := n3_; clear n0_ n1_ n2_ n3_; clear hg hw hp_))
                     (try simp only [← hl7_3])
                     go_roundg k3
                     case measure => have := HK1.out; have := HK2.out; have := HK3.out; omega
                     case rel => exact ⟨(y455), (false), (wrap64 (x11_3 + 1)), (mF), (mF), H', ⟨by have := HK1.out; have := HK2.out; have := HK3.out; omega⟩, ⟨by (try simp only [hl7_1]); (try simp only [hl7_2]); (try simp only [hl7_3]); (with_reducible repeat (first | apply Kd.R_alloc | apply Kd.R_drewN | apply Kd.R_drew)); exact HO_7.out⟩, ⟨by (try simp only [hl7_1]); (try simp only [hl7_2]); (try simp only [hl7_3]); (with_reducible repeat (first | apply Kd.R_alloc | apply Kd.R_drewN | apply Kd.R_drew)); exact Kd.R_mono HO_10.out (fun _ hk => hk.2)⟩, ⟨by (try simp only [hl7_1]); (try simp only [hl7_2]); (try simp only [hl7_3]); refine mU ?_; exact BK433.out⟩, ⟨mB⟩⟩
                   ·rw [if_neg c51] at H
                    exact absurd H (by simp)
                 ·rw [if_neg c37] at H
                  exact absurd H (by simp)
               ·rw [if_neg c23] at H
                have c23b0 : decide (x11_3 < (t439.length : Int)) = false := decide_eq_false c23
                clear c23
                have H' := K1 H
                clear H
                obtain ⟨Ao62, co62, eo62⟩ := Kd.R_slice HO_10.out
                subst eo62
                go_wp2
                (try simp only [← hl7_2, ← hl7_3])
                go_roundg k3
                case measure => have := HK1.out; have := HK2.out; have := HK3.out; omega
                case rel => exact ⟨(x7_3), (x8_3), (wrap64 (x9_2 + 1)), (mF), (mF), H', ⟨by have := HK1.out; have := HK2.out; have := HK3.out; omega⟩, ⟨by (try simp only [hl7_1]); (try simp only [hl7_2]); (try simp only [hl7_3]); (with_reducible repeat (first | apply Kd.R_alloc | apply Kd.R_drewN | apply Kd.R_drew)); exact Kd.R_mono HO_7.out (fun _ hk => trivial)⟩, ⟨by (try simp only [hl7_1]); (try simp only [hl7_2]); (try simp only [hl7_3]); refine mU ?_; exact BK433.out⟩, ⟨mB⟩⟩
            ·replace c19 := Bool.eq_false_iff.mpr c19
             subst c19
             have H1 : (rotaref08_calls.l1 k2 a2 x7_2 x8_2 (wrap64 (x9_2 + 1)) l0_0 l0_1 l0_2) = some r := by rw [if_neg (show ¬ (false = true) by decide)] at H; exact H
             clear H
             have H := H1
             clear H1
             have H' := K1 H
             clear H
             have p438 : 0 ≤ (x9_2 : Int) := of_decide_eq_true (mA)
             have q438 : x9_2 < (x7_2.length : Int) := of_decide_eq_true (mA)
             obtain ⟨ad438, e438, hx438_0⟩ := Kd.at_bool (Kd.R_reads' HO_7.out).2.2 x9_2 p438 q438
             (try rw [← Nbq18.out] at hx438_0)
             obtain rfl : (⟨go8, 0, none⟩ : Addr) = ad438 := (by injection e438)
             (first | simp only [add_plain] at hx438_0 | simp only [add_at] at hx438_0 | simp only [Addr.add, Nat.zero_add] at hx438_0 | skip)
             replace p438 := eq_true p438
             replace q438 := eq_true q438
             go_wp2
             (try simp only [← hl7_2])
             go_roundg k2
             case measure => have := HK1.out; have := HK2.out; omega
             case rel => exact ⟨(x7_2), (x8_2), (wrap64 (x9_2 + 1)), (mF), (mF), H', ⟨by have := HK1.out; have := HK2.out; omega⟩, ⟨by (try simp only [hl7_1]); (try simp only [hl7_2]); (with_reducible repeat (first | apply Kd.R_alloc | apply Kd.R_drewN | apply Kd.R_drew)); exact HO_7.out⟩, ⟨by (try simp only [hl7_1]); (try simp only [hl7_2]); refine mU ?_; exact BK433.out⟩, ⟨mB⟩⟩
           ·rw [if_neg c17] at H
            exact absurd H (by simp)
          ·rw [if_neg c16] at H
           have c16b0 : decide (x9_2 < (x7_2.length : Int)) = false := decide_eq_false c16
           clear c16
           have H' := K1 H
           clear H
           go_wp2
           (try simp only [← hl7_1, ← hl7_2])
           go_roundg k2
           case measure => have := HK1.out; have := HK2.out; omega
           case rel => exact ⟨(x7_2), (x8_2), (mF), H', ⟨by have := HK1.out; have := HK2.out; omega⟩, ⟨by (try simp only [hl7_1]); (try simp only [hl7_2]); (with_reducible repeat (first | apply Kd.R_alloc | apply Kd.R_drewN | apply Kd.R_drew)); exact HO_7.out⟩, ⟨by (try simp only [hl7_1]); (try simp only [hl7_2]); refine mU ?_; exact BK433.out⟩, ⟨mB⟩⟩
       ·replace c15 := Bool.eq_false_iff.mpr c15
        subst c15
        have H1 : (some x7_1) = some r := by rw [if_neg (show ¬ (false = true) by decide)] at H; exact H
        clear H
        have H := H1
        clear H1
        obtain rfl := Option.some.inj H
        go_wp2
        go_ret
        exact ⟨_, mE, by (with_reducible repeat (first | apply Kd.R_alloc | apply Kd.R_drewN | apply Kd.R_drew)); exact HO_7.out, mB⟩
    ·rw [if_neg c7] at H
     exact absurd H (by simp)
   ·rw [if_neg c6] at H
    exact absurd H (by simp)
  ·rw [if_neg c5] at H
   exact absurd H (by simp)
 ·rw [if_neg c4] at H
  exact absurd H (by simp)

end Go.Proofs.Ytdlikjfffdpmiaa.QProper

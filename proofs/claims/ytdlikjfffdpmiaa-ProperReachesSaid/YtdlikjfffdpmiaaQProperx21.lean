/- Written out by a program of this session over the translation: the machine's side of rota/rotalaw08.ProperChecks,rota/rotalaw08.ProperWords,rota/rotalaw08.ProperReaches,rota/rotalaw08.ProperStays,rota/rotalaw08.ProperClosed,rota/rotalaw08.ProperOwn,rota/rotalaw08.ProperCalls,rota/rotalaw08.ProperDeep. Conditions: each theorem's own. -/
import Derived.Test.YtdlikjfffdpmiaaQProperx0
import Derived.Test.YtdlikjfffdpmiaaQProperx17
import Derived.Test.YtdlikjfffdpmiaaQProperx18
import Derived.Test.YtdlikjfffdpmiaaQProperx19
import Derived.Test.YtdlikjfffdpmiaaQProperx20
namespace Go.Proofs.Ytdlikjfffdpmiaa.QProper
open Go.RowKit Go.Proofs.YtdlikjfffdpmiaaW.PrintWords Go.Proofs.YtdlikjfffdpmiaaW.PrintLast Go.Proofs.YtdlikjfffdpmiaaW.PrintMore
attribute [local go_sem] max2_int min2_int max_two min_two max_three min_three max_four min_four   -- for this text's walks alone
set_option linter.unusedVariables false
set_option linter.unusedSimpArgs false

/-! ### rotaref08_wrong: function 33 -/
mutual
def rotaref08_wrong.j0 : Nat → Int → Int → Bool → List Int → List (S34) → List (S58) → Int → Int → Int → Int → Int → Option (Int)
 | 0, _, _, _, _, _, _, _, _, _, _, _ => none
 | k + 1, x1, x7, x22, x173000, x173001, x173002, x181000, x181001, x181002, x181003, x181004 => if x22 = true then (some 82) else (if x181000 = 20 then (rotaref08_wrong.j1 k x1 x7 (decide (x181004 ≥ (x173001.length : Int))) x173000 x173001 x173002 x181000 x181001 x181002 x181003 x181004) else (if x181000 = 22 then (rotaref08_wrong.j1 k x1 x7 (decide (x181004 ≥ (x173001.length : Int))) x173000 x173001 x173002 x181000 x181001 x181002 x181003 x181004) else (rotaref08_wrong.j1 k x1 x7 false x173000 x173001 x173002 x181000 x181001 x181002 x181003 x181004)))
def rotaref08_wrong.j1 : Nat → Int → Int → Bool → List Int → List (S34) → List (S58) → Int → Int → Int → Int → Int → Option (Int)
 | 0, _, _, _, _, _, _, _, _, _, _, _ => none
 | k + 1, x1, x7, x42, x173000, x173001, x173002, x181000, x181001, x181002, x181003, x181004 => if x42 = true then (some 81) else (if x181000 = 34 then (rotaref08_wrong.j2 k x1 x7 (decide (x181004 ≥ (x173002.length : Int))) x173000 x173001 x173002 x181000 x181001 x181002 x181003 x181004) else (rotaref08_wrong.j2 k x1 x7 false x173000 x173001 x173002 x181000 x181001 x181002 x181003 x181004))
def rotaref08_wrong.j2 : Nat → Int → Int → Bool → List Int → List (S34) → List (S58) → Int → Int → Int → Int → Int → Option (Int)
 | 0, _, _, _, _, _, _, _, _, _, _, _ => none
 | k + 1, x1, x7, x59, x173000, x173001, x173002, x181000, x181001, x181002, x181003, x181004 => if x59 = true then (some 83) else (if 0 ≤ x7 then (if x7 < (x173001.length : Int) then (if x1 = (wrap64 (((rd_T34 x173001 x7).f1) - 1)) then ((rotaref08_ends.f x181000).bind fun t185 => (if t185 = true then (some 0) else (some 84))) else (some 0)) else (none)) else (none))
end
def rotaref08_wrong.f (k : Nat) (l0_0 : List Int) (l0_1 : List (S34)) (l0_2 : List (S58)) (a1 : Int) : Option (Int) := if 0 ≤ a1 then (if a1 < (l0_0.length : Int) then ((rotaref06_Decode.f k (rd l0_0 a1)).bind fun bt174 => (if bt174.2.2.2.2.2 = 0 then ((rotaref08_in.f k l0_0 l0_1 l0_2 a1).bind fun t181 => ((rotaref08_jumps.f bt174.1).bind fun t182 => (if t182 = true then (if bt174.2.2.2.2.1 ≥ (l0_0.length : Int) then (rotaref08_wrong.j0 k a1 t181 true l0_0 l0_1 l0_2 bt174.1 bt174.2.1 bt174.2.2.1 bt174.2.2.2.1 bt174.2.2.2.2.1) else ((rotaref08_in.f k l0_0 l0_1 l0_2 bt174.2.2.2.2.1).bind fun t183 => (rotaref08_wrong.j0 k a1 t181 (t183 != t181) l0_0 l0_1 l0_2 bt174.1 bt174.2.1 bt174.2.2.1 bt174.2.2.2.1 bt174.2.2.2.2.1))) else (rotaref08_wrong.j0 k a1 t181 false l0_0 l0_1 l0_2 bt174.1 bt174.2.1 bt174.2.2.1 bt174.2.2.2.1 bt174.2.2.2.2.1)))) else (some 80))) else (none)) else (none)
theorem rotaref08_wrong.mono_l : ∀ k, (∀ y0 y1 y2 y3 y4 y5 y6 y7 y8 y9 y10, LeO (rotaref08_wrong.j0 k y0 y1 y2 y3 y4 y5 y6 y7 y8 y9 y10) (rotaref08_wrong.j0 (k + 1) y0 y1 y2 y3 y4 y5 y6 y7 y8 y9 y10)) ∧ (∀ y0 y1 y2 y3 y4 y5 y6 y7 y8 y9 y10, LeO (rotaref08_wrong.j1 k y0 y1 y2 y3 y4 y5 y6 y7 y8 y9 y10) (rotaref08_wrong.j1 (k + 1) y0 y1 y2 y3 y4 y5 y6 y7 y8 y9 y10)) ∧ (∀ y0 y1 y2 y3 y4 y5 y6 y7 y8 y9 y10, LeO (rotaref08_wrong.j2 k y0 y1 y2 y3 y4 y5 y6 y7 y8 y9 y10) (rotaref08_wrong.j2 (k + 1) y0 y1 y2 y3 y4 y5 y6 y7 y8 y9 y10))
 | 0 => ⟨fun _ _ _ _ _ _ _ _ _ _ _ r h => by simp [rotaref08_wrong.j0] at h, fun _ _ _ _ _ _ _ _ _ _ _ r h => by simp [rotaref08_wrong.j1] at h, fun _ _ _ _ _ _ _ _ _ _ _ r h => by simp [rotaref08_wrong.j2] at h⟩
 | k + 1 => by
  obtain ⟨ih0, ih1, ih2⟩ := rotaref08_wrong.mono_l k
  refine ⟨?_, ?_, ?_⟩
  ·intro y0 y1 y2 y3 y4 y5 y6 y7 y8 y9 y10
   unfold rotaref08_wrong.j0
   repeat' first
   | (with_reducible exact ih0 _ _ _ _ _ _ _ _ _ _ _)
   | (with_reducible exact ih1 _ _ _ _ _ _ _ _ _ _ _)
   | (with_reducible exact ih2 _ _ _ _ _ _ _ _ _ _ _)
   | (with_reducible exact rotaref06_Decode.mono _ _)
   | (with_reducible exact rotaref08_in.mono _ _ _ _ _)
   | (with_reducible exact LeO.refl _)
   | (with_reducible exact LeO.none _)
   | (with_reducible refine LeO.ite ?_ ?_)
   | (with_reducible refine LeO.bind ?_ (fun _ => ?_))
   | exact ih0 _ _ _ _ _ _ _ _ _ _ _
   | exact ih1 _ _ _ _ _ _ _ _ _ _ _
   | exact ih2 _ _ _ _ _ _ _ _ _ _ _
   | exact rotaref06_Decode.mono _ _
   | exact rotaref08_in.mono _ _ _ _ _
   | exact LeO.none _
   | refine LeO.ite ?_ ?_
   | refine LeO.bind ?_ (fun _ => ?_)
  ·intro y0 y1 y2 y3 y4 y5 y6 y7 y8 y9 y10
   unfold rotaref08_wrong.j1
   repeat' first
   | (with_reducible exact ih0 _ _ _ _ _ _ _ _ _ _ _)
   | (with_reducible exact ih1 _ _ _ _ _ _ _ _ _ _ _)
   | (with_reducible exact ih2 _ _ _ _ _ _ _ _ _ _ _)
   | (with_reducible exact rotaref06_Decode.mono _ _)
   | (with_reducible exact rotaref08_in.mono _ _ _ _ _)
   | (with_reducible exact LeO.refl _)
   | (with_reducible exact LeO.none _)
   | (with_reducible refine LeO.ite ?_ ?_)
   | (with_reducible refine LeO.bind ?_ (fun _ => ?_))
   | exact ih0 _ _ _ _ _ _ _ _ _ _ _
   | exact ih1 _ _ _ _ _ _ _ _ _ _ _
   | exact ih2 _ _ _ _ _ _ _ _ _ _ _
   | exact rotaref06_Decode.mono _ _
   | exact rotaref08_in.mono _ _ _ _ _
   | exact LeO.none _
   | refine LeO.ite ?_ ?_
   | refine LeO.bind ?_ (fun _ => ?_)
  ·intro y0 y1 y2 y3 y4 y5 y6 y7 y8 y9 y10
   unfold rotaref08_wrong.j2
   repeat' first
   | (with_reducible exact ih0 _ _ _ _ _ _ _ _ _ _ _)
   | (with_reducible exact ih1 _ _ _ _ _ _ _ _ _ _ _)
   | (with_reducible exact ih2 _ _ _ _ _ _ _ _ _ _ _)
   | (with_reducible exact rotaref06_Decode.mono _ _)
   | (with_reducible exact rotaref08_in.mono _ _ _ _ _)
   | (with_reducible exact LeO.refl _)
   | (with_reducible exact LeO.none _)
   | (with_reducible refine LeO.ite ?_ ?_)
   | (with_reducible refine LeO.bind ?_ (fun _ => ?_))
   | exact ih0 _ _ _ _ _ _ _ _ _ _ _
   | exact ih1 _ _ _ _ _ _ _ _ _ _ _
   | exact ih2 _ _ _ _ _ _ _ _ _ _ _
   | exact rotaref06_Decode.mono _ _
   | exact rotaref08_in.mono _ _ _ _ _
   | exact LeO.none _
   | refine LeO.ite ?_ ?_
   | refine LeO.bind ?_ (fun _ => ?_)
theorem rotaref08_wrong.mono : ∀ a0 a1 a2 a3 k, LeO (rotaref08_wrong.f k a0 a1 a2 a3) (rotaref08_wrong.f (k + 1) a0 a1 a2 a3) := by
 intro a0 a1 a2 a3 k
 obtain ⟨ih0, ih1, ih2⟩ := rotaref08_wrong.mono_l k
 unfold rotaref08_wrong.f
 repeat' first
   | (with_reducible exact ih0 _ _ _ _ _ _ _ _ _ _ _)
   | (with_reducible exact ih1 _ _ _ _ _ _ _ _ _ _ _)
   | (with_reducible exact ih2 _ _ _ _ _ _ _ _ _ _ _)
   | (with_reducible exact rotaref06_Decode.mono _ _)
   | (with_reducible exact rotaref08_in.mono _ _ _ _ _)
   | (with_reducible exact LeO.refl _)
   | (with_reducible exact LeO.none _)
   | (with_reducible refine LeO.ite ?_ ?_)
   | (with_reducible refine LeO.bind ?_ (fun _ => ?_))
   | exact ih0 _ _ _ _ _ _ _ _ _ _ _
   | exact ih1 _ _ _ _ _ _ _ _ _ _ _
   | exact ih2 _ _ _ _ _ _ _ _ _ _ _
   | exact rotaref06_Decode.mono _ _
   | exact rotaref08_in.mono _ _ _ _ _
   | exact LeO.none _
   | refine LeO.ite ?_ ?_
   | refine LeO.bind ?_ (fun _ => ?_)
set_option maxHeartbeats 8000000 in
set_option maxRecDepth 100000 in
theorem rotaref08_wrong.calls (k : Nat) (A0_0 : Option Addr) (c0_0 : Nat) (l0_0 : List Int) (A0_1 : Option Addr) (c0_1 : Nat) (l0_1 : List (S34)) (A0_2 : Option Addr) (c0_2 : Nat) (l0_2 : List (S58)) (a1 : Int) (r : Int) (w : World) (hr0_0 : Kd.C (Kd.int .u32) w A0_0 l0_0.length l0_0) (hc0_0 : l0_0.length ≤ c0_0) (hr0_1 : Kd.C k34 w A0_1 l0_1.length l0_1) (hc0_1 : l0_1.length ≤ c0_1) (hr0_2 : Kd.C k58 w A0_2 l0_2.length l0_2) (hc0_2 : l0_2.length ≤ c0_2) (h : rotaref08_wrong.f k l0_0 l0_1 l0_2 a1 = some r) :
  Calls Try.prog 33 #[.agg #[.slice A0_0 l0_0.length c0_0, .slice A0_1 l0_1.length c0_1, .slice A0_2 l0_2.length c0_2], .int .i64 a1] w fun e w' => e = .returned (.int .i64 r) ∧ Below w.heap.size w w' := by
 have hu26 := Try.underlying26
 have hu48 := Try.underlying48
 have HR0_0 := K1 hr0_0
 have HC0_0 := K1 hc0_0
 clear hr0_0 hc0_0
 have HR0_1 := K1 hr0_1
 have HC0_1 := K1 hc0_1
 clear hr0_1 hc0_1
 have HR0_2 := K1 hr0_2
 have HC0_2 := K1 hc0_2
 clear hr0_2 hc0_2
 have HB := K1 (Below.refl w.heap.size w)
 have H : (if 0 ≤ a1 then (if a1 < (l0_0.length : Int) then ((rotaref06_Decode.f k (rd l0_0 a1)).bind fun bt174 => (if bt174.2.2.2.2.2 = 0 then ((rotaref08_in.f k l0_0 l0_1 l0_2 a1).bind fun t181 => ((rotaref08_jumps.f bt174.1).bind fun t182 => (if t182 = true then (if bt174.2.2.2.2.1 ≥ (l0_0.length : Int) then (rotaref08_wrong.j0 k a1 t181 true l0_0 l0_1 l0_2 bt174.1 bt174.2.1 bt174.2.2.1 bt174.2.2.2.1 bt174.2.2.2.2.1) else ((rotaref08_in.f k l0_0 l0_1 l0_2 bt174.2.2.2.2.1).bind fun t183 => (rotaref08_wrong.j0 k a1 t181 (t183 != t181) l0_0 l0_1 l0_2 bt174.1 bt174.2.1 bt174.2.2.1 bt174.2.2.2.1 bt174.2.2.2.2.1))) else (rotaref08_wrong.j0 k a1 t181 false l0_0 l0_1 l0_2 bt174.1 bt174.2.1 bt174.2.2.1 bt174.2.2.2.1 bt174.2.2.2.2.1)))) else (some 80))) else (none)) else (none)) = some r := h
 clear h
 by_cases c3 : 0 ≤ a1
 ·rw [if_pos c3] at H
  have c3b0 : decide (0 ≤ a1) = true := decide_eq_true c3
  clear c3
  by_cases c4 : a1 < (l0_0.length : Int)
  ·rw [if_pos c4] at H
   have c4b0 : decide (a1 < (l0_0.length : Int)) = true := decide_eq_true c4
   clear c4
   replace H := Option.bind_eq_some_iff.mp H
   obtain ⟨⟨t174, t175, t176, t177, t178, t179⟩, A50, H⟩ := H
   replace H : (if t179 = 0 then ((rotaref08_in.f k l0_0 l0_1 l0_2 a1).bind fun t181 => ((rotaref08_jumps.f t174).bind fun t182 => (if t182 = true then (if t178 ≥ (l0_0.length : Int) then (rotaref08_wrong.j0 k a1 t181 true l0_0 l0_1 l0_2 t174 t175 t176 t177 t178) else ((rotaref08_in.f k l0_0 l0_1 l0_2 t178).bind fun t183 => (rotaref08_wrong.j0 k a1 t181 (t183 != t181) l0_0 l0_1 l0_2 t174 t175 t176 t177 t178))) else (rotaref08_wrong.j0 k a1 t181 false l0_0 l0_1 l0_2 t174 t175 t176 t177 t178)))) else (some 80)) = some r := H
   have A5 := K1 A50
   clear A50
   by_cases c6 : t179 = 0
   ·rw [if_pos c6] at H
    have c6b0 : (t179 == 0) = true := beq_iff_eq.mpr c6
    have c6b1 : (t179 != 0) = false := bne_eq_false_iff_eq.mpr c6
    clear c6
    replace H := Option.bind_eq_some_iff.mp H
    obtain ⟨t181, A70, H⟩ := H
    replace H : ((rotaref08_jumps.f t174).bind fun t182 => (if t182 = true then (if t178 ≥ (l0_0.length : Int) then (rotaref08_wrong.j0 k a1 t181 true l0_0 l0_1 l0_2 t174 t175 t176 t177 t178) else ((rotaref08_in.f k l0_0 l0_1 l0_2 t178).bind fun t183 => (rotaref08_wrong.j0 k a1 t181 (t183 != t181) l0_0 l0_1 l0_2 t174 t175 t176 t177 t178))) else (rotaref08_wrong.j0 k a1 t181 false l0_0 l0_1 l0_2 t174 t175 t176 t177 t178))) = some r := H
    have A7 := K1 A70
    clear A70
    have HC8 := K1 H
    clear H
    go_enter Try.func33, Try.ntmps33
    go_upto_region 5 with (first | ((with_reducible refine gate_dst (N := 2) rfl ?_); (try (refine gate_guard (by rfl) ?_; dsimp only)); refine box_event ?hg (N := 2) ?hd (cs := #[.slice A0_0 l0_0.length c0_0, .slice A0_1 l0_1.length c0_1, .slice A0_2 l0_2.length c0_2]) (t := 26) ?hr ?_; (case hd => rfl); (case hg => rfl); (case hr => first | (go_simp; done) | (go_simp; rfl)); intro gb172 hg w9 hbox hb; have n0_ := K1 (below_step (mB) hb); have n1_ := K1 (hbox); have n2_ := K1 ((by rw [hg]; exact (below_size (mB)) : w.heap.size ≤ gb172)); have n3_ := K1 ((by rw [hg]; exact (below_size (mB)) : w.heap.size ≤ gb172)); clear HB; have HB := n0_; have BK172 := n1_; have GW172 := n2_; have GE172 := n3_; clear n0_ n1_ n2_ n3_; clear hb hbox hg; have hcz10_0 : w9.cell? ⟨gb172, 0, none⟩ = some (.slice A0_0 l0_0.length c0_0) := (blk_cell BK172.out 0).trans rfl; have hcz10_1 : w9.cell? ⟨gb172, 1, none⟩ = some (.slice A0_1 l0_1.length c0_1) := (blk_cell BK172.out 1).trans rfl; have hcz10_2 : w9.cell? ⟨gb172, 2, none⟩ = some (.slice A0_2 l0_2.length c0_2) := (blk_cell BK172.out 2).trans rfl; have hfz10_0 := blk_frozen BK172.out 0; have hfz10_1 := blk_frozen BK172.out 1; have hfz10_2 := blk_frozen BK172.out 2; have p173 : 0 ≤ (a1 : Int) := of_decide_eq_true (mA); have q173 : a1 < (l0_0.length : Int) := of_decide_eq_true (mA); obtain ⟨ad173, e173, hx173_0⟩ := Kd.at_int HR0_0.out a1 p173 q173; cases e173; replace hx173_0 := (HB.out.cell (World.block_lt_of_cell? w _ hx173_0)).trans hx173_0; replace p173 := eq_true p173; replace q173 := eq_true q173) | ((with_reducible refine gate_callee (f := 27) rfl ?_); refine goesL_ (some 14) rfl rfl Try.func27 (by kernel_rfl) rfl #[.int .u32 (rd l0_0 a1)] rfl (mL) ?_; (with_reducible refine (rotaref06_Decode.calls k (rd l0_0 a1) t174 t175 t176 t177 t178 t179 _ A5.out).mono ?_); rintro e w11 ⟨rfl, hb⟩; refine ⟨_, rfl, ?_⟩; have n0_ := K1 (blk_below (g := gb172) (o := .cells #[.slice (some ad173) l0_0.length c0_0, .slice A0_1 l0_1.length c0_1, .slice A0_2 l0_2.length c0_2] 26 (0, 0)) (by refine mU ?_; exact BK172.out) hb); have n1_ := K1 (below_step (mB) hb); clear BK172; clear HB; have BK172 := n0_; have HB := n1_; clear n0_ n1_; (try clear hb); (try clear hb2); (try clear hk); (try clear hi)) | ((with_reducible refine gate_dst (N := 5) rfl ?_); (try (refine gate_guard (by rfl) ?_; dsimp only)); refine box_event ?hg (N := 5) ?hd (cs := #[.int .i64 0, .int .i64 0, .int .i64 0, .int .i64 0, .int .i64 0]) (t := 48) ?hr ?_; (case hd => rfl); (case hg => rfl); (case hr => first | (go_simp; done) | (go_simp; rfl)); intro gb180 hg w12 hbox hb; have n0_ := K1 (blk_below (g := gb172) (o := .cells #[.slice (some ad173) l0_0.length c0_0, .slice A0_1 l0_1.length c0_1, .slice A0_2 l0_2.length c0_2] 26 (0, 0)) (by refine mU ?_; exact BK172.out) hb); have n1_ := K1 (below_step (mB) hb); have n2_ := K1 (hbox); have n3_ := K1 ((by rw [hg]; exact (below_size (mB)) : w.heap.size ≤ gb180)); have n4_ := K1 ((by rw [hg]; exact (below_size (mB)) : w.heap.size ≤ gb180)); have n5_ := K1 ((by rw [hg]; exact Nat.ne_of_lt (blk_lt (g := gb172) (o := .cells #[.slice (some ad173) l0_0.length c0_0, .slice A0_1 l0_1.length c0_1, .slice A0_2 l0_2.length c0_2] 26 (0, 0)) (by refine mU ?_; exact BK172.out)) : gb172 ≠ gb180)); have n6_ := K1 ((by rw [hg]; exact Nat.ne_of_gt (blk_lt (g := gb172) (o := .cells #[.slice (some ad173) l0_0.length c0_0, .slice A0_1 l0_1.length c0_1, .slice A0_2 l0_2.length c0_2] 26 (0, 0)) (by refine mU ?_; exact BK172.out)) : gb180 ≠ gb172)); clear BK172; clear HB; have BK172 := n0_; have HB := n1_; have BK180 := n2_; have GW180 := n3_; have GE180 := n4_; have NB172_180 := n5_; have NB180_172 := n6_; clear n0_ n1_ n2_ n3_ n4_ n5_ n6_; clear hb hbox hg; have hnb13 := NB180_172.out; have hnc13 := NB172_180.out; have hcz14_0 : w12.cell? ⟨gb180, 0, none⟩ = some (.int .i64 0) := (blk_cell BK180.out 0).trans rfl; have hcz14_1 : w12.cell? ⟨gb180, 1, none⟩ = some (.int .i64 0) := (blk_cell BK180.out 1).trans rfl; have hcz14_2 : w12.cell? ⟨gb180, 2, none⟩ = some (.int .i64 0) := (blk_cell BK180.out 2).trans rfl; have hcz14_3 : w12.cell? ⟨gb180, 3, none⟩ = some (.int .i64 0) := (blk_cell BK180.out 3).trans rfl; have hcz14_4 : w12.cell? ⟨gb180, 4, none⟩ = some (.int .i64 0) := (blk_cell BK180.out 4).trans rfl; have hfz14_0 := blk_frozen BK180.out 0; have hfz14_1 := blk_frozen BK180.out 1; have hfz14_2 := blk_frozen BK180.out 2; have hfz14_3 := blk_frozen BK180.out 3; have hfz14_4 := blk_frozen BK180.out 4; have hcz15_0 : w12.cell? ⟨gb172, 0, none⟩ = some (.slice (some ad173) l0_0.length c0_0) := (blk_cell BK172.out 0).trans rfl; have hcz15_1 : w12.cell? ⟨gb172, 1, none⟩ = some (.slice A0_1 l0_1.length c0_1) := (blk_cell BK172.out 1).trans rfl; have hcz15_2 : w12.cell? ⟨gb172, 2, none⟩ = some (.slice A0_2 l0_2.length c0_2) := (blk_cell BK172.out 2).trans rfl; have hfz15_0 := blk_frozen BK172.out 0; have hfz15_1 := blk_frozen BK172.out 1; have hfz15_2 := blk_frozen BK172.out 2) | ((with_reducible refine gate_callee (f := 38) rfl ?_); refine goesL_ (some 21) rfl rfl Try.func38 (by kernel_rfl) rfl #[.agg #[.slice (some ad173) l0_0.length c0_0, .slice A0_1 l0_1.length c0_1, .slice A0_2 l0_2.length c0_2], .int .i64 a1] rfl (mL) ?_; (with_reducible refine (rotaref08_in.calls k _ _ l0_0 _ _ l0_1 _ _ l0_2 a1 t181 _ ?side1 ?side2 ?side3 ?side4 ?side5 ?side6 A7.out).mono ?_); (case side1 => exact Kd.C_below HR0_0.out (mB)); (case side2 => exact HC0_0.out); (case side3 => exact Kd.C_below HR0_1.out (mB)); (case side4 => exact HC0_1.out); (case side5 => exact Kd.C_below HR0_2.out (mB)); (case side6 => exact HC0_2.out); rintro e w16 ⟨rfl, hb⟩; refine ⟨_, rfl, ?_⟩; have n0_ := K1 (blk_below (g := gb172) (o := .cells #[.slice (some ad173) l0_0.length c0_0, .slice A0_1 l0_1.length c0_1, .slice A0_2 l0_2.length c0_2] 26 (0, 0)) (by refine mU ?_; refine blk_far ?_ NB172_180.out _; refine mU ?_; refine blk_far ?_ NB172_180.out _; refine mU ?_; refine blk_far ?_ NB172_180.out _; refine mU ?_; refine blk_far ?_ NB172_180.out _; refine mU ?_; refine blk_far ?_ NB172_180.out _; refine mU ?_; exact BK172.out) hb); have n1_ := K1 (blk_below (g := gb180) (o := .cells #[.int .i64 t174, .int .i64 t175, .int .i64 t176, .int .i64 t177, .int .i64 t178] 48 (0, 0)) (by refine mU ?_; refine blk_put (cs := #[.int .i64 t174, .int .i64 t175, .int .i64 t176, .int .i64 t177, .int .i64 0]) ?_ 4 _ rfl; refine mU ?_; refine blk_put (cs := #[.int .i64 t174, .int .i64 t175, .int .i64 t176, .int .i64 0, .int .i64 0]) ?_ 3 _ rfl; refine mU ?_; refine blk_put (cs := #[.int .i64 t174, .int .i64 t175, .int .i64 0, .int .i64 0, .int .i64 0]) ?_ 2 _ rfl; refine mU ?_; refine blk_put (cs := #[.int .i64 t174, .int .i64 0, .int .i64 0, .int .i64 0, .int .i64 0]) ?_ 1 _ rfl; refine mU ?_; refine blk_put (cs := #[.int .i64 0, .int .i64 0, .int .i64 0, .int .i64 0, .int .i64 0]) ?_ 0 _ rfl; refine mU ?_; exact BK180.out) hb); have n2_ := K1 (below_step (mB) hb); clear BK172; clear BK180; clear HB; have BK172 := n0_; have BK180 := n1_; have HB := n2_; clear n0_ n1_ n2_; (try clear hb); (try clear hb2); (try clear hk); (try clear hi)))
    (try simp only [Act.put, List.setIfInBounds_toArray, List.set_cons_zero, List.set_cons_succ])
    go_cut [22] (fun v22 wc => ∃ (kq : Nat) (x22_7 : Bool), v22 = .bool x22_7 ∧ Aside0 (rotaref08_wrong.j0 kq a1 t181 x22_7 l0_0 l0_1 l0_2 t174 t175 t176 t177 t178 = some r) ∧ Aside0 (kq ≤ k) ∧ Aside0 (wc.heap[gb172]? = some (.cells #[(.slice (some ad173) l0_0.length c0_0), (.slice A0_1 l0_1.length c0_1), (.slice A0_2 l0_2.length c0_2)] 26 (0, 0))) ∧ Aside0 (wc.heap[gb180]? = some (.cells #[.int .i64 t174, .int .i64 t175, .int .i64 t176, .int .i64 t177, .int .i64 t178] 48 (0, 0))) ∧ Aside0 (Below w.heap.size w wc))
    case first =>
     have H := HC8.out
     clear HC8
     replace H := Option.bind_eq_some_iff.mp H
     obtain ⟨t182, A170, H⟩ := H
     replace H : (if t182 = true then (if t178 ≥ (l0_0.length : Int) then (rotaref08_wrong.j0 k a1 t181 true l0_0 l0_1 l0_2 t174 t175 t176 t177 t178) else ((rotaref08_in.f k l0_0 l0_1 l0_2 t178).bind fun t183 => (rotaref08_wrong.j0 k a1 t181 (t183 != t181) l0_0 l0_1 l0_2 t174 t175 t176 t177 t178))) else (rotaref08_wrong.j0 k a1 t181 false l0_0 l0_1 l0_2 t174 t175 t176 t177 t178)) = some r := H
     have A17 := K1 A170
     clear A170
     by_cases c18 : t182 = true
     ·subst c18
      have H1 : (if t178 ≥ (l0_0.length : Int) then (rotaref08_wrong.j0 k a1 t181 true l0_0 l0_1 l0_2 t174 t175 t176 t177 t178) else ((rotaref08_in.f k l0_0 l0_1 l0_2 t178).bind fun t183 => (rotaref08_wrong.j0 k a1 t181 (t183 != t181) l0_0 l0_1 l0_2 t174 t175 t176 t177 t178))) = some r := by rw [if_pos rfl] at H; exact H
      clear H
      have H := H1
      clear H1
      by_cases c19 : t178 ≥ (l0_0.length : Int)
      ·rw [if_pos c19] at H
       have c19b0 : decide ((l0_0.length : Int) ≤ t178) = true := decide_eq_true c19
       clear c19
       (first | rw [c19b0] | (simp only [i64_w, i32_w]; rw [c19b0]) | skip)
       have H' := K1 H
       clear H
       have hnb20 := NB180_172.out
       have hnc20 := NB172_180.out
       have hcz21_0 : w16.cell? ⟨gb180, 0, none⟩ = some (.int .i64 t174) := (blk_cell BK180.out 0).trans rfl
       have hcz21_1 : w16.cell? ⟨gb180, 1, none⟩ = some (.int .i64 t175) := (blk_cell BK180.out 1).trans rfl
       have hcz21_2 : w16.cell? ⟨gb180, 2, none⟩ = some (.int .i64 t176) := (blk_cell BK180.out 2).trans rfl
       have hcz21_3 : w16.cell? ⟨gb180, 3, none⟩ = some (.int .i64 t177) := (blk_cell BK180.out 3).trans rfl
       have hcz21_4 : w16.cell? ⟨gb180, 4, none⟩ = some (.int .i64 t178) := (blk_cell BK180.out 4).trans rfl
       have hfz21_0 := blk_frozen BK180.out 0
       have hfz21_1 := blk_frozen BK180.out 1
       have hfz21_2 := blk_frozen BK180.out 2
       have hfz21_3 := blk_frozen BK180.out 3
       have hfz21_4 := blk_frozen BK180.out 4
       go_wp2_with (first | ((with_reducible refine gate_callee (f := 63) rfl ?_); refine goesL_ (some 25) rfl rfl Try.func63 (by kernel_rfl) rfl #[.int .i64 t174] rfl (mL) ?_; (with_reducible refine (rotaref08_jumps.calls t174 true _ A17.out).mono ?_); rintro e w' ⟨rfl, ⟨nd, rfl⟩⟩; refine ⟨_, rfl, ?_⟩; have hcz22_0 : w16.cell? ⟨gb172, 0, none⟩ = some (.slice (some ad173) l0_0.length c0_0) := (blk_cell BK172.out 0).trans rfl; have hcz22_1 : w16.cell? ⟨gb172, 1, none⟩ = some (.slice A0_1 l0_1.length c0_1) := (blk_cell BK172.out 1).trans rfl; have hcz22_2 : w16.cell? ⟨gb172, 2, none⟩ = some (.slice A0_2 l0_2.length c0_2) := (blk_cell BK172.out 2).trans rfl; have hfz22_0 := blk_frozen BK172.out 0; have hfz22_1 := blk_frozen BK172.out 1; have hfz22_2 := blk_frozen BK172.out 2))
       go_meet
       case rel => exact ⟨_, (true), (mF), H', ⟨by first | omega | exact Nat.le_refl _⟩, ⟨by refine mU ?_; exact BK172.out⟩, ⟨by refine mU ?_; exact BK180.out⟩, ⟨mB⟩⟩
      ·rw [if_neg c19] at H
       have c19b0 : decide ((l0_0.length : Int) ≤ t178) = false := decide_eq_false c19
       clear c19
       (first | rw [c19b0] | (simp only [i64_w, i32_w]; rw [c19b0]) | skip)
       replace H := Option.bind_eq_some_iff.mp H
       obtain ⟨t183, A230, H⟩ := H
       replace H : (rotaref08_wrong.j0 k a1 t181 (t183 != t181) l0_0 l0_1 l0_2 t174 t175 t176 t177 t178) = some r := H
       have A23 := K1 A230
       clear A230
       have H' := K1 H
       clear H
       have hnb24 := NB180_172.out
       have hnc24 := NB172_180.out
       have hcz25_0 : w16.cell? ⟨gb180, 0, none⟩ = some (.int .i64 t174) := (blk_cell BK180.out 0).trans rfl
       have hcz25_1 : w16.cell? ⟨gb180, 1, none⟩ = some (.int .i64 t175) := (blk_cell BK180.out 1).trans rfl
       have hcz25_2 : w16.cell? ⟨gb180, 2, none⟩ = some (.int .i64 t176) := (blk_cell BK180.out 2).trans rfl
       have hcz25_3 : w16.cell? ⟨gb180, 3, none⟩ = some (.int .i64 t177) := (blk_cell BK180.out 3).trans rfl
       have hcz25_4 : w16.cell? ⟨gb180, 4, none⟩ = some (.int .i64 t178) := (blk_cell BK180.out 4).trans rfl
       have hfz25_0 := blk_frozen BK180.out 0
       have hfz25_1 := blk_frozen BK180.out 1
       have hfz25_2 := blk_frozen BK180.out 2
       have hfz25_3 := blk_frozen BK180.out 3
       have hfz25_4 := blk_frozen BK180.out 4
       go_wp2_with (first | ((with_reducible refine gate_callee (f := 63) rfl ?_); refine goesL_ (some 25) rfl rfl Try.func63 (by kernel_rfl) rfl #[.int .i64 t174] rfl (mL) ?_; (with_reducible refine (rotaref08_jumps.calls t174 true _ A17.out).mono ?_); rintro e w' ⟨rfl, ⟨nd, rfl⟩⟩; refine ⟨_, rfl, ?_⟩; have hcz26_0 : w16.cell? ⟨gb172, 0, none⟩ = some (.slice (some ad173) l0_0.length c0_0) := (blk_cell BK172.out 0).trans rfl; have hcz26_1 : w16.cell? ⟨gb172, 1, none⟩ = some (.slice A0_1 l0_1.length c0_1) := (blk_cell BK172.out 1).trans rfl; have hcz26_2 : w16.cell? ⟨gb172, 2, none⟩ = some (.slice A0_2 l0_2.length c0_2) := (blk_cell BK172.out 2).trans rfl; have hfz26_0 := blk_frozen BK172.out 0; have hfz26_1 := blk_frozen BK172.out 1; have hfz26_2 := blk_frozen BK172.out 2) | (go_at_call 38; (with_reducible refine (rotaref08_in.calls k _ _ l0_0 _ _ l0_1 _ _ l0_2 t178 t183 _ ?side1 ?side2 ?side3 ?side4 ?side5 ?side6 A23.out).mono ?_); (case side1 => repeat (first | exact (Kd.C_below HR0_0.out (mB)) | (with_reducible refine Kd.C_alloc ?_ _) | (with_reducible refine Kd.C_drewN ?_ _) | (with_reducible refine Kd.C_drew ?_))); (case side2 => exact HC0_0.out); (case side3 => repeat (first | exact (Kd.C_below HR0_1.out (mB)) | (with_reducible refine Kd.C_alloc ?_ _) | (with_reducible refine Kd.C_drewN ?_ _) | (with_reducible refine Kd.C_drew ?_))); (case side4 => exact HC0_1.out); (case side5 => repeat (first | exact (Kd.C_below HR0_2.out (mB)) | (with_reducible refine Kd.C_alloc ?_ _) | (with_reducible refine Kd.C_drewN ?_ _) | (with_reducible refine Kd.C_drew ?_))); (case side6 => exact HC0_2.out); rintro e w27 ⟨rfl, hb⟩; have n0_ := K1 (blk_below (g := gb172) (o := .cells #[.slice (some ad173) l0_0.length c0_0, .slice A0_1 l0_1.length c0_1, .slice A0_2 l0_2.length c0_2] 26 (0, 0)) (by refine mU ?_; exact BK172.out) hb); have n1_ := K1 (blk_below (g := gb180) (o := .cells #[.int .i64 t174, .int .i64 t175, .int .i64 t176, .int .i64 t177, .int .i64 t178] 48 (0, 0)) (by refine mU ?_; exact BK180.out) hb); have n2_ := K1 (below_step (mB) hb); clear BK172; clear BK180; clear HB; have BK172 := n0_; have BK180 := n1_; have HB := n2_; clear n0_ n1_ n2_; (try clear hb); (try clear hb2); (try clear hk); (try clear hi)))
       go_meet
       case rel => exact ⟨_, ((t183 != t181)), (mF), H', ⟨by first | omega | exact Nat.le_refl _⟩, ⟨by refine mU ?_; exact BK172.out⟩, ⟨by refine mU ?_; exact BK180.out⟩, ⟨mB⟩⟩
     ·replace c18 := Bool.eq_false_iff.mpr c18
      subst c18
      have H1 : (rotaref08_wrong.j0 k a1 t181 false l0_0 l0_1 l0_2 t174 t175 t176 t177 t178) = some r := by rw [if_neg (show ¬ (false = true) by decide)] at H; exact H
      clear H
      have H := H1
      clear H1
      have H' := K1 H
      clear H
      have hnb28 := NB180_172.out
      have hnc28 := NB172_180.out
      have hcz29_0 : w16.cell? ⟨gb180, 0, none⟩ = some (.int .i64 t174) := (blk_cell BK180.out 0).trans rfl
      have hcz29_1 : w16.cell? ⟨gb180, 1, none⟩ = some (.int .i64 t175) := (blk_cell BK180.out 1).trans rfl
      have hcz29_2 : w16.cell? ⟨gb180, 2, none⟩ = some (.int .i64 t176) := (blk_cell BK180.out 2).trans rfl
      have hcz29_3 : w16.cell? ⟨gb180, 3, none⟩ = some (.int .i64 t177) := (blk_cell BK180.out 3).trans rfl
      have hcz29_4 : w16.cell? ⟨gb180, 4, none⟩ = some (.int .i64 t178) := (blk_cell BK180.out 4).trans rfl
      have hfz29_0 := blk_frozen BK180.out 0
      have hfz29_1 := blk_frozen BK180.out 1
      have hfz29_2 := blk_frozen BK180.out 2
      have hfz29_3 := blk_frozen BK180.out 3
      have hfz29_4 := blk_frozen BK180.out 4
      go_wp2_with (first | ((with_reducible refine gate_callee (f := 63) rfl ?_); refine goesL_ (some 25) rfl rfl Try.func63 (by kernel_rfl) rfl #[.int .i64 t174] rfl (mL) ?_; (with_reducible refine (rotaref08_jumps.calls t174 false _ A17.out).mono ?_); rintro e w' ⟨rfl, ⟨nd, rfl⟩⟩; refine ⟨_, rfl, ?_⟩))
      go_meet
      case rel => exact ⟨_, (false), (mF), H', ⟨by first | omega | exact Nat.le_refl _⟩, ⟨by refine mU ?_; exact BK172.out⟩, ⟨by refine mU ?_; exact BK180.out⟩, ⟨mB⟩⟩
    case rest =>
     clear HC8
     try clear c1
     try clear p1
     try clear q1
     try clear hx1
     try clear c2
     try clear p2
     try clear c3
     try clear c3b0
     try clear c4
     try clear c4b0
     try clear c6
     try clear c6b0
     try clear c6b1
     try clear c13
     try clear p17
     try clear q17
     try clear hx17
     try clear c18
     try clear c19
     try clear c19b0
     try clear c20
     try clear c24
     try clear c27
     try clear c28
     try clear hcz10_0
     try clear hcz10_1
     try clear hcz10_2
     try clear hcz14_0
     try clear hcz14_1
     try clear hcz14_2
     try clear hcz14_3
     try clear hcz14_4
     try clear hcz15_0
     try clear hcz15_1
     try clear hcz15_2
     try clear hcz21_0
     try clear hcz21_1
     try clear hcz21_2
     try clear hcz21_3
     try clear hcz21_4
     try clear hcz22_0
     try clear hcz22_1
     try clear hcz22_2
     try clear hcz25_0
     try clear hcz25_1
     try clear hcz25_2
     try clear hcz25_3
     try clear hcz25_4
     try clear hcz26_0
     try clear hcz26_1
     try clear hcz26_2
     try clear hcz29_0
     try clear hcz29_1
     try clear hcz29_2
     try clear hcz29_3
     try clear hcz29_4
     try clear hfz10_0
     try clear hfz10_1
     try clear hfz10_2
     try clear hfz14_0
     try clear hfz14_1
     try clear hfz14_2
     try clear hfz14_3
     try clear hfz14_4
     try clear hfz15_0
     try clear hfz15_1
     try clear hfz15_2
     try clear hfz21_0
     try clear hfz21_1
     try clear hfz21_2
     try clear hfz21_3
     try clear hfz21_4
     try clear hfz22_0
     try clear hfz22_1
     try clear hfz22_2
     try clear hfz25_0
     try clear hfz25_1
     try clear hfz25_2
     try clear hfz25_3
     try clear hfz25_4
     try clear hfz26_0
     try clear hfz26_1
     try clear hfz26_2
     try clear hfz29_0
     try clear hfz29_1
     try clear hfz29_2
     try clear hfz29_3
     try clear hfz29_4
     try clear hx173_0
     try clear p173
     try clear q173
     obtain ⟨kq, x22_7, rfl, HA, HJ7, BK172, BK180, HB⟩ := hcut
     cases kq with
     | zero => exact absurd HA.out (by simp [rotaref08_wrong.j0])
     | succ kj7 =>
      have H := HA.out
      clear HA
      simp only [rotaref08_wrong.j0] at H
      by_cases c30 : x22_7 = true
      ·subst c30
       have H1 : (some 82) = some r := by rw [if_pos rfl] at H; exact H
       clear H
       have H := H1
       clear H1
       obtain rfl := Option.some.inj H
       go_wp2
       go_ret
       exact ⟨mE, mB⟩
      ·replace c30 := Bool.eq_false_iff.mpr c30
       subst c30
       have H1 : (if t174 = 20 then (rotaref08_wrong.j1 kj7 a1 t181 (decide (t178 ≥ (l0_1.length : Int))) l0_0 l0_1 l0_2 t174 t175 t176 t177 t178) else (if t174 = 22 then (rotaref08_wrong.j1 kj7 a1 t181 (decide (t178 ≥ (l0_1.length : Int))) l0_0 l0_1 l0_2 t174 t175 t176 t177 t178) else (rotaref08_wrong.j1 kj7 a1 t181 false l0_0 l0_1 l0_2 t174 t175 t176 t177 t178))) = some r := by rw [if_neg (show ¬ (false = true) by decide)] at H; exact H
       clear H
       have H := H1
       clear H1
       have HC31 := K1 H
       clear H
       go_upto_region 7 with (fail)
       go_cut [42] (fun v42 wc => ∃ (kq : Nat) (x42_30 : Bool), v42 = .bool x42_30 ∧ Aside0 (rotaref08_wrong.j1 kq a1 t181 x42_30 l0_0 l0_1 l0_2 t174 t175 t176 t177 t178 = some r) ∧ Aside0 (kq ≤ kj7) ∧ Aside0 (wc.heap[gb172]? = some (.cells #[(.slice (some ad173) l0_0.length c0_0), (.slice A0_1 l0_1.length c0_1), (.slice A0_2 l0_2.length c0_2)] 26 (0, 0))) ∧ Aside0 (wc.heap[gb180]? = some (.cells #[.int .i64 t174, .int .i64 t175, .int .i64 t176, .int .i64 t177, .int .i64 t178] 48 (0, 0))) ∧ Aside0 (Below w.heap.size w wc))
       case first =>
        have H := HC31.out
        clear HC31
        by_cases c32 : t174 = 20
        ·rw [if_pos c32] at H
         have c32b0 : (t174 == 20) = true := beq_iff_eq.mpr c32
         have c32b1 : (t174 != 20) = false := bne_eq_false_iff_eq.mpr c32
         clear c32
         (first | rw [c32b0] | (simp only [i64_w, i32_w]; rw [c32b0]) | skip)
         have H' := K1 H
         clear H
         have hnb33 := NB180_172.out
         have hnc33 := NB172_180.out
         have hcz34_0 : wc.cell? ⟨gb180, 0, none⟩ = some (.int .i64 t174) := (blk_cell BK180.out 0).trans rfl
         have hcz34_1 : wc.cell? ⟨gb180, 1, none⟩ = some (.int .i64 t175) := (blk_cell BK180.out 1).trans rfl
         have hcz34_2 : wc.cell? ⟨gb180, 2, none⟩ = some (.int .i64 t176) := (blk_cell BK180.out 2).trans rfl
         have hcz34_3 : wc.cell? ⟨gb180, 3, none⟩ = some (.int .i64 t177) := (blk_cell BK180.out 3).trans rfl
         have hcz34_4 : wc.cell? ⟨gb180, 4, none⟩ = some (.int .i64 t178) := (blk_cell BK180.out 4).trans rfl
         have hfz34_0 := blk_frozen BK180.out 0
         have hfz34_1 := blk_frozen BK180.out 1
         have hfz34_2 := blk_frozen BK180.out 2
         have hfz34_3 := blk_frozen BK180.out 3
         have hfz34_4 := blk_frozen BK180.out 4
         have hcz35_0 : wc.cell? ⟨gb172, 0, none⟩ = some (.slice (some ad173) l0_0.length c0_0) := (blk_cell BK172.out 0).trans rfl
         have hcz35_1 : wc.cell? ⟨gb172, 1, none⟩ = some (.slice A0_1 l0_1.length c0_1) := (blk_cell BK172.out 1).trans rfl
         have hcz35_2 : wc.cell? ⟨gb172, 2, none⟩ = some (.slice A0_2 l0_2.length c0_2) := (blk_cell BK172.out 2).trans rfl
         have hfz35_0 := blk_frozen BK172.out 0
         have hfz35_1 := blk_frozen BK172.out 1
         have hfz35_2 := blk_frozen BK172.out 2
         go_wp2
         go_meet
         case rel => exact ⟨_, (decide (t178 ≥ (l0_1.length : Int))), (mF), H', ⟨by have := HJ7.out; first | omega | exact Nat.le_refl _⟩, ⟨by refine mU ?_; exact BK172.out⟩, ⟨by refine mU ?_; exact BK180.out⟩, ⟨mB⟩⟩
        ·rw [if_neg c32] at H
         have c32b0 : (t174 == 20) = false := beq_eq_false_iff_ne.mpr c32
         have c32b1 : (t174 != 20) = true := bne_iff_ne.mpr c32
         (first | rw [c32b0] | (simp only [i64_w, i32_w]; rw [c32b0]) | skip)
         by_cases c36 : t174 = 22
         ·rw [if_pos c36] at H
          have c36b0 : (t174 == 22) = true := beq_iff_eq.mpr c36
          have c36b1 : (t174 != 22) = false := bne_eq_false_iff_eq.mpr c36
          clear c36
          have H' := K1 H
          clear H
          have hnb37 := NB180_172.out
          have hnc37 := NB172_180.out
          have hcz38_0 : wc.cell? ⟨gb180, 0, none⟩ = some (.int .i64 t174) := (blk_cell BK180.out 0).trans rfl
          have hcz38_1 : wc.cell? ⟨gb180, 1, none⟩ = some (.int .i64 t175) := (blk_cell BK180.out 1).trans rfl
          have hcz38_2 : wc.cell? ⟨gb180, 2, none⟩ = some (.int .i64 t176) := (blk_cell BK180.out 2).trans rfl
          have hcz38_3 : wc.cell? ⟨gb180, 3, none⟩ = some (.int .i64 t177) := (blk_cell BK180.out 3).trans rfl
          have hcz38_4 : wc.cell? ⟨gb180, 4, none⟩ = some (.int .i64 t178) := (blk_cell BK180.out 4).trans rfl
          have hfz38_0 := blk_frozen BK180.out 0
          have hfz38_1 := blk_frozen BK180.out 1
          have hfz38_2 := blk_frozen BK180.out 2
          have hfz38_3 := blk_frozen BK180.out 3
          have hfz38_4 := blk_frozen BK180.out 4
          have hcz39_0 : wc.cell? ⟨gb172, 0, none⟩ = some (.slice (some ad173) l0_0.length c0_0) := (blk_cell BK172.out 0).trans rfl
          have hcz39_1 : wc.cell? ⟨gb172, 1, none⟩ = some (.slice A0_1 l0_1.length c0_1) := (blk_cell BK172.out 1).trans rfl
          have hcz39_2 : wc.cell? ⟨gb172, 2, none⟩ = some (.slice A0_2 l0_2.length c0_2) := (blk_cell BK172.out 2).trans rfl
          have hfz39_0 := blk_frozen BK172.out 0
          have hfz39_1 := blk_frozen BK172.out 1
          have hfz39_2 := blk_frozen BK172.out 2
          go_wp2
          go_meet
          case rel => exact ⟨_, (decide (t178 ≥ (l0_1.length : Int))), (mF), H', ⟨by have := HJ7.out; first | omega | exact Nat.le_refl _⟩, ⟨by refine mU ?_; exact BK172.out⟩, ⟨by refine mU ?_; exact BK180.out⟩, ⟨mB⟩⟩
         ·rw [if_neg c36] at H
          have c36b0 : (t174 == 22) = false := beq_eq_false_iff_ne.mpr c36
          have c36b1 : (t174 != 22) = true := bne_iff_ne.mpr c36
          have H' := K1 H
          clear H
          have hnb40 := NB180_172.out
          have hnc40 := NB172_180.out
          have hcz41_0 : wc.cell? ⟨gb180, 0, none⟩ = some (.int .i64 t174) := (blk_cell BK180.out 0).trans rfl
          have hcz41_1 : wc.cell? ⟨gb180, 1, none⟩ = some (.int .i64 t175) := (blk_cell BK180.out 1).trans rfl
          have hcz41_2 : wc.cell? ⟨gb180, 2, none⟩ = some (.int .i64 t176) := (blk_cell BK180.out 2).trans rfl
          have hcz41_3 : wc.cell? ⟨gb180, 3, none⟩ = some (.int .i64 t177) := (blk_cell BK180.out 3).trans rfl
          have hcz41_4 : wc.cell? ⟨gb180, 4, none⟩ = some (.int .i64 t178) := (blk_cell BK180.out 4).trans rfl
          have hfz41_0 := blk_frozen BK180.out 0
          have hfz41_1 := blk_frozen BK180.out 1
          have hfz41_2 := blk_frozen BK180.out 2
          have hfz41_3 := blk_frozen BK180.out 3
          have hfz41_4 := blk_frozen BK180.out 4
          go_wp2
          go_meet
          case rel => exact ⟨_, (false), (mF), H', ⟨by have := HJ7.out; first | omega | exact Nat.le_refl _⟩, ⟨by refine mU ?_; exact BK172.out⟩, ⟨by refine mU ?_; exact BK180.out⟩, ⟨mB⟩⟩
       case rest =>
        clear HC31
        try clear c1
        try clear p1
        try clear q1
        try clear hx1
        try clear c2
        try clear p2
        try clear c3
        try clear c3b0
        try clear c4
        try clear c4b0
        try clear c6
        try clear c6b0
        try clear c6b1
        try clear c13
        try clear p17
        try clear q17
        try clear hx17
        try clear c18
        try clear c19
        try clear c19b0
        try clear c20
        try clear c24
        try clear c27
        try clear c28
        try clear c30
        try clear c32
        try clear c32b0
        try clear c32b1
        try clear c33
        try clear c36
        try clear c36b0
        try clear c36b1
        try clear c37
        try clear c38
        try clear c40
        try clear hcz10_0
        try clear hcz10_1
        try clear hcz10_2
        try clear hcz14_0
        try clear hcz14_1
        try clear hcz14_2
        try clear hcz14_3
        try clear hcz14_4
        try clear hcz15_0
        try clear hcz15_1
        try clear hcz15_2
        try clear hcz21_0
        try clear hcz21_1
        try clear hcz21_2
        try clear hcz21_3
        try clear hcz21_4
        try clear hcz22_0
        try clear hcz22_1
        try clear hcz22_2
        try clear hcz25_0
        try clear hcz25_1
        try clear hcz25_2
        try clear hcz25_3
        try clear hcz25_4
        try clear hcz26_0
        try clear hcz26_1
        try clear hcz26_2
        try clear hcz29_0
        try clear hcz29_1
        try clear hcz29_2
        try clear hcz29_3
        try clear hcz29_4
        try clear hcz34_0
        try clear hcz34_1
        try clear hcz34_2
        try clear hcz34_3
        try clear hcz34_4
        try clear hcz35_0
        try clear hcz35_1
        try clear hcz35_2
        try clear hcz38_0
        try clear hcz38_1
        try clear hcz38_2
        try clear hcz38_3
        try clear hcz38_4
        try clear hcz39_0
        try clear hcz39_1
        try clear hcz39_2
        try clear hcz41_0
        try clear hcz41_1
        try clear hcz41_2
        try clear hcz41_3
        try clear hcz41_4
        try clear hfz10_0
        try clear hfz10_1
        try clear hfz10_2
        try clear hfz14_0
        try clear hfz14_1
        try clear hfz14_2
        try clear hfz14_3
        try clear hfz14_4
        try clear hfz15_0
        try clear hfz15_1
        try clear hfz15_2
        try clear hfz21_0
        try clear hfz21_1
        try clear hfz21_2
        try clear hfz21_3
        try clear hfz21_4
        try clear hfz22_0
        try clear hfz22_1
        try clear hfz22_2
        try clear hfz25_0
        try clear hfz25_1
        try clear hfz25_2
        try clear hfz25_3
        try clear hfz25_4
        try clear hfz26_0
        try clear hfz26_1
        try clear hfz26_2
        try clear hfz29_0
        try clear hfz29_1
        try clear hfz29_2
        try clear hfz29_3
        try clear hfz29_4
        try clear hfz34_0
        try clear hfz34_1
        try clear hfz34_2
        try clear hfz34_3
        try clear hfz34_4
        try clear hfz35_0
        try clear hfz35_1
        try clear hfz35_2
        try clear hfz38_0
        try clear hfz38_1
        try clear hfz38_2
        try clear hfz38_3
        try clear hfz38_4
        try clear hfz39_0
        try clear hfz39_1
        try clear hfz39_2
        try clear hfz41_0
        try clear hfz41_1
        try clear hfz41_2
        try clear hfz41_3
        try clear hfz41_4
        try clear hx173_0
        try clear p1
        try clear p17
        try clear p173
        try clear p2
        try clear q1
        try clear q17
        try clear q173
        obtain ⟨kq, x42_30, rfl, HA, HJ30, BK172, BK180, HB⟩ := hcut
        cases kq with
        | zero => exact absurd HA.out (by simp [rotaref08_wrong.j1])
        | succ kj30 =>
         have H := HA.out
         clear HA
         simp only [rotaref08_wrong.j1] at H
         by_cases c42 : x42_30 = true
         ·subst c42
          have H1 : (some 81) = some r := by rw [if_pos rfl] at H; exact H
          clear H
          have H := H1
          clear H1
          obtain rfl := Option.some.inj H
          go_wp2
          go_ret
          exact ⟨mE, mB⟩
         ·replace c42 := Bool.eq_false_iff.mpr c42
          subst c42
          have H1 : (if t174 = 34 then (rotaref08_wrong.j2 kj30 a1 t181 (decide (t178 ≥ (l0_2.length : Int))) l0_0 l0_1 l0_2 t174 t175 t176 t177 t178) else (rotaref08_wrong.j2 kj30 a1 t181 false l0_0 l0_1 l0_2 t174 t175 t176 t177 t178)) = some r := by rw [if_neg (show ¬ (false = true) by decide)] at H; exact H
          clear H
          have H := H1
          clear H1
          have HC43 := K1 H
          clear H
          go_upto_region 9 with (fail)
          go_cut [59] (fun v59 wc => ∃ (kq : Nat) (x59_42 : Bool), v59 = .bool x59_42 ∧ Aside0 (rotaref08_wrong.j2 kq a1 t181 x59_42 l0_0 l0_1 l0_2 t174 t175 t176 t177 t178 = some r) ∧ Aside0 (kq ≤ kj30) ∧ Aside0 (wc.heap[gb172]? = some (.cells #[(.slice (some ad173) l0_0.length c0_0), (.slice A0_1 l0_1.length c0_1), (.slice A0_2 l0_2.length c0_2)] 26 (0, 0))) ∧ Aside0 (wc.heap[gb180]? = some (.cells #[.int .i64 t174, .int .i64 t175, .int .i64 t176, .int .i64 t177, .int .i64 t178] 48 (0, 0))) ∧ Aside0 (Below w.heap.size w wc))
          case first =>
           have H := HC43.out
           clear HC43
           by_cases c44 : t174 = 34
           ·rw [if_pos c44] at H
            have c44b0 : (t174 == 34) = true := beq_iff_eq.mpr c44
            have c44b1 : (t174 != 34) = false := bne_eq_false_iff_eq.mpr c44
            clear c44
            (first | rw [c44b0] | (simp only [i64_w, i32_w]; rw [c44b0]) | skip)
            have H' := K1 H
            clear H
            have hnb45 := NB180_172.out
            have hnc45 := NB172_180.out
            have hcz46_0 : wc.cell? ⟨gb180, 0, none⟩ = some (.int .i64 t174) := (blk_cell BK180.out 0).trans rfl
            have hcz46_1 : wc.cell? ⟨gb180, 1, none⟩ = some (.int .i64 t175) := (blk_cell BK180.out 1).trans rfl
            have hcz46_2 : wc.cell? ⟨gb180, 2, none⟩ = some (.int .i64 t176) := (blk_cell BK180.out 2).trans rfl
            have hcz46_3 : wc.cell? ⟨gb180, 3, none⟩ = some (.int .i64 t177) := (blk_cell BK180.out 3).trans rfl
            have hcz46_4 : wc.cell? ⟨gb180, 4, none⟩ = some (.int .i64 t178) := (blk_cell BK180.out 4).trans rfl
            have hfz46_0 := blk_frozen BK180.out 0
            have hfz46_1 := blk_frozen BK180.out 1
            have hfz46_2 := blk_frozen BK180.out 2
            have hfz46_3 := blk_frozen BK180.out 3
            have hfz46_4 := blk_frozen BK180.out 4
            have hcz47_0 : wc.cell? ⟨gb172, 0, none⟩ = some (.slice (some ad173) l0_0.length c0_0) := (blk_cell BK172.out 0).trans rfl
            have hcz47_1 : wc.cell? ⟨gb172, 1, none⟩ = some (.slice A0_1 l0_1.length c0_1) := (blk_cell BK172.out 1).trans rfl
            have hcz47_2 : wc.cell? ⟨gb172, 2, none⟩ = some (.slice A0_2 l0_2.length c0_2) := (blk_cell BK172.out 2).trans rfl
            have hfz47_0 := blk_frozen BK172.out 0
            have hfz47_1 := blk_frozen BK172.out 1
            have hfz47_2 := blk_frozen BK172.out 2
            go_wp2
            go_meet
            case rel => exact ⟨_, (decide (t178 ≥ (l0_2.length : Int))), (mF), H', ⟨by have := HJ7.out; have := HJ30.out; first | omega | exact Nat.le_refl _⟩, ⟨by refine mU ?_; exact BK172.out⟩, ⟨by refine mU ?_; exact BK180.out⟩, ⟨mB⟩⟩
           ·rw [if_neg c44] at H
            have c44b0 : (t174 == 34) = false := beq_eq_false_iff_ne.mpr c44
            have c44b1 : (t174 != 34) = true := bne_iff_ne.mpr c44
            (first | rw [c44b0] | (simp only [i64_w, i32_w]; rw [c44b0]) | skip)
            have H' := K1 H
            clear H
            have hnb48 := NB180_172.out
            have hnc48 := NB172_180.out
            have hcz49_0 : wc.cell? ⟨gb180, 0, none⟩ = some (.int .i64 t174) := (blk_cell BK180.out 0).trans rfl
            have hcz49_1 : wc.cell? ⟨gb180, 1, none⟩ = some (.int .i64 t175) := (blk_cell BK180.out 1).trans rfl
            have hcz49_2 : wc.cell? ⟨gb180, 2, none⟩ = some (.int .i64 t176) := (blk_cell BK180.out 2).trans rfl
            have hcz49_3 : wc.cell? ⟨gb180, 3, none⟩ = some (.int .i64 t177) := (blk_cell BK180.out 3).trans rfl
            have hcz49_4 : wc.cell? ⟨gb180, 4, none⟩ = some (.int .i64 t178) := (blk_cell BK180.out 4).trans rfl
            have hfz49_0 := blk_frozen BK180.out 0
            have hfz49_1 := blk_frozen BK180.out 1
            have hfz49_2 := blk_frozen BK180.out 2
            have hfz49_3 := blk_frozen BK180.out 3
            have hfz49_4 := blk_frozen BK180.out 4
            go_wp2
            go_meet
            case rel => exact ⟨_, (false), (mF), H', ⟨by have := HJ7.out; have := HJ30.out; first | omega | exact Nat.le_refl _⟩, ⟨by refine mU ?_; exact BK172.out⟩, ⟨by refine mU ?_; exact BK180.out⟩, ⟨mB⟩⟩
          case rest =>
           clear HC43
           try clear c1
           try clear p1
           try clear q1
           try clear hx1
           try clear c2
           try clear p2
           try clear c3
           try clear c3b0
           try clear c4
           try clear c4b0
           try clear c6
           try clear c6b0
           try clear c6b1
           try clear c13
           try clear p17
           try clear q17
           try clear hx17
           try clear c18
           try clear c19
           try clear c19b0
           try clear c20
           try clear c24
           try clear c27
           try clear c28
           try clear c30
           try clear c32
           try clear c32b0
           try clear c32b1
           try clear c33
           try clear c36
           try clear c36b0
           try clear c36b1
           try clear c37
           try clear c38
           try clear c40
           try clear c42
           try clear c44
           try clear c44b0
           try clear c44b1
           try clear c45
           try clear c48
           try clear hcz10_0
           try clear hcz10_1
           try clear hcz10_2
           try clear hcz14_0
           try clear hcz14_1
           try clear hcz14_2
           try clear hcz14_3
           try clear hcz14_4
           try clear hcz15_0
           try clear hcz15_1
           try clear hcz15_2
           try clear hcz21_0
           try clear hcz21_1
           try clear hcz21_2
           try clear hcz21_3
           try clear hcz21_4
           try clear hcz22_0
           try clear hcz22_1
           try clear hcz22_2
           try clear hcz25_0
           try clear hcz25_1
           try clear hcz25_2
           try clear hcz25_3
           try clear hcz25_4
           try clear hcz26_0
           try clear hcz26_1
           try clear hcz26_2
           try clear hcz29_0
           try clear hcz29_1
           try clear hcz29_2
           try clear hcz29_3
           try clear hcz29_4
           try clear hcz34_0
           try clear hcz34_1
           try clear hcz34_2
           try clear hcz34_3
           try clear hcz34_4
           try clear hcz35_0
           try clear hcz35_1
           try clear hcz35_2
           try clear hcz38_0
           try clear hcz38_1
           try clear hcz38_2
           try clear hcz38_3
           try clear hcz38_4
           try clear hcz39_0
           try clear hcz39_1
           try clear hcz39_2
           try clear hcz41_0
           try clear hcz41_1
           try clear hcz41_2
           try clear hcz41_3
           try clear hcz41_4
           try clear hcz46_0
           try clear hcz46_1
           try clear hcz46_2
           try clear hcz46_3
           try clear hcz46_4
           try clear hcz47_0
           try clear hcz47_1
           try clear hcz47_2
           try clear hcz49_0
           try clear hcz49_1
           try clear hcz49_2
           try clear hcz49_3
           try clear hcz49_4
           try clear hfz10_0
           try clear hfz10_1
           try clear hfz10_2
           try clear hfz14_0
           try clear hfz14_1
           try clear hfz14_2
           try clear hfz14_3
           try clear hfz14_4
           try clear hfz15_0
           try clear hfz15_1
           try clear hfz15_2
           try clear hfz21_0
           try clear hfz21_1
           try clear hfz21_2
           try clear hfz21_3
           try clear hfz21_4
           try clear hfz22_0
           try clear hfz22_1
           try clear hfz22_2
           try clear hfz25_0
           try clear hfz25_1
           try clear hfz25_2
           try clear hfz25_3
           try clear hfz25_4
           try clear hfz26_0
           try clear hfz26_1
           try clear hfz26_2
           try clear hfz29_0
           try clear hfz29_1
           try clear hfz29_2
           try clear hfz29_3
           try clear hfz29_4
           try clear hfz34_0
           try clear hfz34_1
           try clear hfz34_2
           try clear hfz34_3
           try clear hfz34_4
           try clear hfz35_0
           try clear hfz35_1
           try clear hfz35_2
           try clear hfz38_0
           try clear hfz38_1
           try clear hfz38_2
           try clear hfz38_3
           try clear hfz38_4
           try clear hfz39_0
           try clear hfz39_1
           try clear hfz39_2
           try clear hfz41_0
           try clear hfz41_1
           try clear hfz41_2
           try clear hfz41_3
           try clear hfz41_4
           try clear hfz46_0
           try clear hfz46_1
           try clear hfz46_2
           try clear hfz46_3
           try clear hfz46_4
           try clear hfz47_0
           try clear hfz47_1
           try clear hfz47_2
           try clear hfz49_0
           try clear hfz49_1
           try clear hfz49_2
           try clear hfz49_3
           try clear hfz49_4
           try clear hx173_0
           try clear p1
           try clear p17
           try clear p173
           try clear p2
           try clear q1
           try clear q17
           try clear q173
           obtain ⟨kq, x59_42, rfl, HA, HJ42, BK172, BK180, HB⟩ := hcut
           cases kq with
           | zero => exact absurd HA.out (by simp [rotaref08_wrong.j2])
           | succ kj42 =>
            have H := HA.out
            clear HA
            simp only [rotaref08_wrong.j2] at H
            by_cases c50 : x59_42 = true
            ·subst c50
             have H1 : (some 83) = some r := by rw [if_pos rfl] at H; exact H
             clear H
             have H := H1
             clear H1
             obtain rfl := Option.some.inj H
             go_wp2
             go_ret
             exact ⟨mE, mB⟩
            ·replace c50 := Bool.eq_false_iff.mpr c50
             subst c50
             have H1 : (if 0 ≤ t181 then (if t181 < (l0_1.length : Int) then (if a1 = (wrap64 (((rd_T34 l0_1 t181).f1) - 1)) then ((rotaref08_ends.f t174).bind fun t185 => (if t185 = true then (some 0) else (some 84))) else (some 0)) else (none)) else (none)) = some r := by rw [if_neg (show ¬ (false = true) by decide)] at H; exact H
             clear H
             have H := H1
             clear H1
             by_cases c51 : 0 ≤ t181
             ·rw [if_pos c51] at H
              have c51b0 : decide (0 ≤ t181) = true := decide_eq_true c51
              clear c51
              by_cases c52 : t181 < (l0_1.length : Int)
              ·rw [if_pos c52] at H
               have c52b0 : decide (t181 < (l0_1.length : Int)) = true := decide_eq_true c52
               clear c52
               by_cases c53 : a1 = (wrap64 (((rd_T34 l0_1 t181).f1) - 1))
               ·rw [if_pos c53] at H
                have c53b0 : (a1 == (wrap64 (((rd_T34 l0_1 t181).f1) - 1))) = true := beq_iff_eq.mpr c53
                have c53b1 : (a1 != (wrap64 (((rd_T34 l0_1 t181).f1) - 1))) = false := bne_eq_false_iff_eq.mpr c53
                clear c53
                replace H := Option.bind_eq_some_iff.mp H
                obtain ⟨t185, A540, H⟩ := H
                replace H : (if t185 = true then (some 0) else (some 84)) = some r := H
                have A54 := K1 A540
                clear A540
                by_cases c55 : t185 = true
                ·subst c55
                 have H1 : (some 0) = some r := by rw [if_pos rfl] at H; exact H
                 clear H
                 have H := H1
                 clear H1
                 obtain rfl := Option.some.inj H
                 have hnb56 := NB172_180.out
                 have hnc56 := NB180_172.out
                 have hcz57_0 : wc.cell? ⟨gb172, 0, none⟩ = some (.slice (some ad173) l0_0.length c0_0) := (blk_cell BK172.out 0).trans rfl
                 have hcz57_1 : wc.cell? ⟨gb172, 1, none⟩ = some (.slice A0_1 l0_1.length c0_1) := (blk_cell BK172.out 1).trans rfl
                 have hcz57_2 : wc.cell? ⟨gb172, 2, none⟩ = some (.slice A0_2 l0_2.length c0_2) := (blk_cell BK172.out 2).trans rfl
                 have hfz57_0 := blk_frozen BK172.out 0
                 have hfz57_1 := blk_frozen BK172.out 1
                 have hfz57_2 := blk_frozen BK172.out 2
                 have p184 : 0 ≤ (t181 : Int) := of_decide_eq_true (mA)
                 have q184 : t181 < (l0_1.length : Int) := of_decide_eq_true (mA)
                 obtain ⟨ad184, e184, hx184_0, hx184_1⟩ := at_T34 HR0_1.out t181 p184 q184
                 cases e184
                 replace hx184_0 := (HB.out.cell (World.block_lt_of_cell? w _ hx184_0)).trans hx184_0
                 replace hx184_1 := (HB.out.cell (World.block_lt_of_cell? w _ hx184_1)).trans hx184_1
                 replace p184 := eq_true p184
                 replace q184 := eq_true q184
                 have hcz58_0 : wc.cell? ⟨gb180, 0, none⟩ = some (.int .i64 t174) := (blk_cell BK180.out 0).trans rfl
                 have hcz58_1 : wc.cell? ⟨gb180, 1, none⟩ = some (.int .i64 t175) := (blk_cell BK180.out 1).trans rfl
                 have hcz58_2 : wc.cell? ⟨gb180, 2, none⟩ = some (.int .i64 t176) := (blk_cell BK180.out 2).trans rfl
                 have hcz58_3 : wc.cell? ⟨gb180, 3, none⟩ = some (.int .i64 t177) := (blk_cell BK180.out 3).trans rfl
                 have hcz58_4 : wc.cell? ⟨gb180, 4, none⟩ = some (.int .i64 t178) := (blk_cell BK180.out 4).trans rfl
                 have hfz58_0 := blk_frozen BK180.out 0
                 have hfz58_1 := blk_frozen BK180.out 1
                 have hfz58_2 := blk_frozen BK180.out 2
                 have hfz58_3 := blk_frozen BK180.out 3
                 have hfz58_4 := blk_frozen BK180.out 4
                 go_wp2_with (first | (go_at_call 64; (with_reducible refine (rotaref08_ends.calls t174 true _ A54.out).mono ?_); rintro e w' ⟨rfl, ⟨nd, rfl⟩⟩))
                 go_ret
                 exact ⟨mE, mB⟩
                ·replace c55 := Bool.eq_false_iff.mpr c55
                 subst c55
                 have H1 : (some 84) = some r := by rw [if_neg (show ¬ (false = true) by decide)] at H; exact H
                 clear H
                 have H := H1
                 clear H1
                 obtain rfl := Option.some.inj H
                 have hnb59 := NB172_180.out
                 have hnc59 := NB180_172.out
                 have hcz60_0 : wc.cell? ⟨gb172, 0, none⟩ = some (.slice (some ad173) l0_0.length c0_0) := (blk_cell BK172.out 0).trans rfl
                 have hcz60_1 : wc.cell? ⟨gb172, 1, none⟩ = some (.slice A0_1 l0_1.length c0_1) := (blk_cell BK172.out 1).trans rfl
                 have hcz60_2 : wc.cell? ⟨gb172, 2, none⟩ = some (.slice A0_2 l0_2.length c0_2) := (blk_cell BK172.out 2).trans rfl
                 have hfz60_0 := blk_frozen BK172.out 0
                 have hfz60_1 := blk_frozen BK172.out 1
                 have hfz60_2 := blk_frozen BK172.out 2
                 have p184 : 0 ≤ (t181 : Int) := of_decide_eq_true (mA)
                 have q184 : t181 < (l0_1.length : Int) := of_decide_eq_true (mA)
                 obtain ⟨ad184, e184, hx184_0, hx184_1⟩ := at_T34 HR0_1.out t181 p184 q184
                 cases e184
                 replace hx184_0 := (HB.out.cell (World.block_lt_of_cell? w _ hx184_0)).trans hx184_0
                 replace hx184_1 := (HB.out.cell (World.block_lt_of_cell? w _ hx184_1)).trans hx184_1
                 replace p184 := eq_true p184
                 replace q184 := eq_true q184
                 have hcz61_0 : wc.cell? ⟨gb180, 0, none⟩ = some (.int .i64 t174) := (blk_cell BK180.out 0).trans rfl
                 have hcz61_1 : wc.cell? ⟨gb180, 1, none⟩ = some (.int .i64 t175) := (blk_cell BK180.out 1).trans rfl
                 have hcz61_2 : wc.cell? ⟨gb180, 2, none⟩ = some (.int .i64 t176) := (blk_cell BK180.out 2).trans rfl
                 have hcz61_3 : wc.cell? ⟨gb180, 3, none⟩ = some (.int .i64 t177) := (blk_cell BK180.out 3).trans rfl
                 have hcz61_4 : wc.cell? ⟨gb180, 4, none⟩ = some (.int .i64 t178) := (blk_cell BK180.out 4).trans rfl
                 have hfz61_0 := blk_frozen BK180.out 0
                 have hfz61_1 := blk_frozen BK180.out 1
                 have hfz61_2 := blk_frozen BK180.out 2
                 have hfz61_3 := blk_frozen BK180.out 3
                 have hfz61_4 := blk_frozen BK180.out 4
                 go_wp2_with (first | (go_at_call 64; (with_reducible refine (rotaref08_ends.calls t174 false _ A54.out).mono ?_); rintro e w' ⟨rfl, ⟨nd, rfl⟩⟩))
                 go_ret
                 exact ⟨mE, mB⟩
               ·rw [if_neg c53] at H
                have c53b0 : (a1 == (wrap64 (((rd_T34 l0_1 t181).f1) - 1))) = false := beq_eq_false_iff_ne.mpr c53
                have c53b1 : (a1 != (wrap64 (((rd_T34 l0_1 t181).f1) - 1))) = true := bne_iff_ne.mpr c53
                obtain rfl := Option.some.inj H
                have hnb62 := NB172_180.out
                have hnc62 := NB180_172.out
                have hcz63_0 : wc.cell? ⟨gb172, 0, none⟩ = some (.slice (some ad173) l0_0.length c0_0) := (blk_cell BK172.out 0).trans rfl
                have hcz63_1 : wc.cell? ⟨gb172, 1, none⟩ = some (.slice A0_1 l0_1.length c0_1) := (blk_cell BK172.out 1).trans rfl
                have hcz63_2 : wc.cell? ⟨gb172, 2, none⟩ = some (.slice A0_2 l0_2.length c0_2) := (blk_cell BK172.out 2).trans rfl
                have hfz63_0 := blk_frozen BK172.out 0
                have hfz63_1 := blk_frozen BK172.out 1
                have hfz63_2 := blk_frozen BK172.out 2
                have p184 : 0 ≤ (t181 : Int) := of_decide_eq_true (mA)
                have q184 : t181 < (l0_1.length : Int) := of_decide_eq_true (mA)
                obtain ⟨ad184, e184, hx184_0, hx184_1⟩ := at_T34 HR0_1.out t181 p184 q184
                cases e184
                replace hx184_0 := (HB.out.cell (World.block_lt_of_cell? w _ hx184_0)).trans hx184_0
                replace hx184_1 := (HB.out.cell (World.block_lt_of_cell? w _ hx184_1)).trans hx184_1
                replace p184 := eq_true p184
                replace q184 := eq_true q184
                go_wp2
                go_ret
                exact ⟨mE, mB⟩
              ·rw [if_neg c52] at H
               exact absurd H (by simp)
             ·rw [if_neg c51] at H
              exact absurd H (by simp)
   ·rw [if_neg c6] at H
    have c6b0 : (t179 == 0) = false := beq_eq_false_iff_ne.mpr c6
    have c6b1 : (t179 != 0) = true := bne_iff_ne.mpr c6
    obtain rfl := Option.some.inj H
    go_enter Try.func33, Try.ntmps33
    go_wp2_with (first | ((with_reducible refine gate_dst (N := 2) rfl ?_); (try (refine gate_guard (by rfl) ?_; dsimp only)); refine box_event ?hg (N := 2) ?hd (cs := #[.slice A0_0 l0_0.length c0_0, .slice A0_1 l0_1.length c0_1, .slice A0_2 l0_2.length c0_2]) (t := 26) ?hr ?_; (case hd => rfl); (case hg => rfl); (case hr => first | (go_simp; done) | (go_simp; rfl)); intro gb172 hg w64 hbox hb; have n0_ := K1 (below_step (mB) hb); have n1_ := K1 (hbox); have n2_ := K1 ((by rw [hg]; exact (below_size (mB)) : w.heap.size ≤ gb172)); have n3_ := K1 ((by rw [hg]; exact (below_size (mB)) : w.heap.size ≤ gb172)); clear HB; have HB := n0_; have BK172 := n1_; have GW172 := n2_; have GE172 := n3_; clear n0_ n1_ n2_ n3_; clear hb hbox hg; have hcz65_0 : w64.cell? ⟨gb172, 0, none⟩ = some (.slice A0_0 l0_0.length c0_0) := (blk_cell BK172.out 0).trans rfl; have hcz65_1 : w64.cell? ⟨gb172, 1, none⟩ = some (.slice A0_1 l0_1.length c0_1) := (blk_cell BK172.out 1).trans rfl; have hcz65_2 : w64.cell? ⟨gb172, 2, none⟩ = some (.slice A0_2 l0_2.length c0_2) := (blk_cell BK172.out 2).trans rfl; have hfz65_0 := blk_frozen BK172.out 0; have hfz65_1 := blk_frozen BK172.out 1; have hfz65_2 := blk_frozen BK172.out 2; have p173 : 0 ≤ (a1 : Int) := of_decide_eq_true (mA); have q173 : a1 < (l0_0.length : Int) := of_decide_eq_true (mA); obtain ⟨ad173, e173, hx173_0⟩ := Kd.at_int HR0_0.out a1 p173 q173; cases e173; replace hx173_0 := (HB.out.cell (World.block_lt_of_cell? w _ hx173_0)).trans hx173_0; replace p173 := eq_true p173; replace q173 := eq_true q173) | ((with_reducible refine gate_callee (f := 27) rfl ?_); refine goesL_ (some 14) rfl rfl Try.func27 (by kernel_rfl) rfl #[.int .u32 (rd l0_0 a1)] rfl (mL) ?_; (with_reducible refine (rotaref06_Decode.calls k (rd l0_0 a1) t174 t175 t176 t177 t178 t179 _ A5.out).mono ?_); rintro e w66 ⟨rfl, hb⟩; refine ⟨_, rfl, ?_⟩; have n0_ := K1 (blk_below (g := gb172) (o := .cells #[.slice (some ad173) l0_0.length c0_0, .slice A0_1 l0_1.length c0_1, .slice A0_2 l0_2.length c0_2] 26 (0, 0)) (by refine mU ?_; exact BK172.out) hb); have n1_ := K1 (below_step (mB) hb); clear BK172; clear HB; have BK172 := n0_; have HB := n1_; clear n0_ n1_; (try clear hb); (try clear hb2); (try clear hk); (try clear hi)) | ((with_reducible refine gate_dst (N := 5) rfl ?_); (try (refine gate_guard (by rfl) ?_; dsimp only)); refine box_event ?hg (N := 5) ?hd (cs := #[.int .i64 0, .int .i64 0, .int .i64 0, .int .i64 0, .int .i64 0]) (t := 48) ?hr ?_; (case hd => rfl); (case hg => rfl); (case hr => first | (go_simp; done) | (go_simp; rfl)); intro gb180 hg w67 hbox hb; have n0_ := K1 (blk_below (g := gb172) (o := .cells #[.slice (some ad173) l0_0.length c0_0, .slice A0_1 l0_1.length c0_1, .slice A0_2 l0_2.length c0_2] 26 (0, 0)) (by refine mU ?_; exact BK172.out) hb); have n1_ := K1 (below_step (mB) hb); have n2_ := K1 (hbox); have n3_ := K1 ((by rw [hg]; exact (below_size (mB)) : w.heap.size ≤ gb180)); have n4_ := K1 ((by rw [hg]; exact (below_size (mB)) : w.heap.size ≤ gb180)); have n5_ := K1 ((by rw [hg]; exact Nat.ne_of_lt (blk_lt (g := gb172) (o := .cells #[.slice (some ad173) l0_0.length c0_0, .slice A0_1 l0_1.length c0_1, .slice A0_2 l0_2.length c0_2] 26 (0, 0)) (by refine mU ?_; exact BK172.out)) : gb172 ≠ gb180)); have n6_ := K1 ((by rw [hg]; exact Nat.ne_of_gt (blk_lt (g := gb172) (o := .cells #[.slice (some ad173) l0_0.length c0_0, .slice A0_1 l0_1.length c0_1, .slice A0_2 l0_2.length c0_2] 26 (0, 0)) (by refine mU ?_; exact BK172.out)) : gb180 ≠ gb172)); clear BK172; clear HB; have BK172 := n0_; have HB := n1_; have BK180 := n2_; have GW180 := n3_; have GE180 := n4_; have NB172_180 := n5_; have NB180_172 := n6_; clear n0_ n1_ n2_ n3_ n4_ n5_ n6_; clear hb hbox hg; have hnb68 := NB180_172.out; have hnc68 := NB172_180.out; have hcz69_0 : w67.cell? ⟨gb180, 0, none⟩ = some (.int .i64 0) := (blk_cell BK180.out 0).trans rfl; have hcz69_1 : w67.cell? ⟨gb180, 1, none⟩ = some (.int .i64 0) := (blk_cell BK180.out 1).trans rfl; have hcz69_2 : w67.cell? ⟨gb180, 2, none⟩ = some (.int .i64 0) := (blk_cell BK180.out 2).trans rfl; have hcz69_3 : w67.cell? ⟨gb180, 3, none⟩ = some (.int .i64 0) := (blk_cell BK180.out 3).trans rfl; have hcz69_4 : w67.cell? ⟨gb180, 4, none⟩ = some (.int .i64 0) := (blk_cell BK180.out 4).trans rfl; have hfz69_0 := blk_frozen BK180.out 0; have hfz69_1 := blk_frozen BK180.out 1; have hfz69_2 := blk_frozen BK180.out 2; have hfz69_3 := blk_frozen BK180.out 3; have hfz69_4 := blk_frozen BK180.out 4))
    go_ret
    exact ⟨mE, mB⟩
  ·rw [if_neg c4] at H
   exact absurd H (by simp)
 ·rw [if_neg c3] at H
  exact absurd H (by simp)

end Go.Proofs.Ytdlikjfffdpmiaa.QProper

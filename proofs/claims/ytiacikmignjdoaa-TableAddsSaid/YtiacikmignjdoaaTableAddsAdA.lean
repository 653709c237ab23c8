/- TableAdds, walked: what it comes to out of what Share and Supply tell.
   Conditions: the table reads as a list of lists of slots; what Share and Supply tell is known. -/
import Derived.Test.YtiacikmignjdoaaTableAddsSh
import Derived.Test.YtiacikmignjdoaaTableAddsSu
import Derived.Test.YtiacikmignjdoaaQTableAddsx2
import Derived.Deep.QuietTactic
import Derived.BigQuiet
set_option linter.unusedVariables false
set_option linter.unusedSimpArgs false
namespace Go.Proofs.Ytiacikmignjdoaa.QTableAdds
open Go.RowKit Go.Proofs.Ytiacikmignjdoaa.Arr Go.Proofs.Ytiacikmignjdoaa.KTableAdds Go.Proofs.YtiacikmignjdoaaW.PrintWords Go.Proofs.YtiacikmignjdoaaW.PrintLast Go.Proofs.YtiacikmignjdoaaW.PrintMore

section
variable (k : Nat) (a0_0 : Int) (A0_1 : Option Addr) (c0_1 : Nat) (l0_1 : List (List (S48))) (a1 n m : Int) (w : World) (hr0_1 : Kd.C (Kd.slice 48 k48) w A0_1 l0_1.length l0_1) (hc0_1 : l0_1.length ≤ c0_1)
  (sv e : Int) (hS : table_Share.f k a0_0 l0_1 a1 = some (sv, e)) (haw : rotalaw16_awake.f k = some true)
include hr0_1 hc0_1 hS haw

set_option maxHeartbeats 1000000 in
set_option maxRecDepth 100000 in
theorem adds_err (he : ¬ e = 0) (x f : Int) (hn : table_Supply.f k a0_0 l0_1 a1 n = some (x, f)) (hef : f = e) :
    Calls Try.prog 11 #[.agg #[.int .u64 a0_0, .slice A0_1 l0_1.length c0_1], .int .i64 a1, .agg #[.int .u64 n, .int .u64 m]] w fun e w' => e = .returned (.bool true) ∧ Below w.heap.size w w' := by
  have hu25 := Try.underlying25
  have HR := Aside0.mk hr0_1
  have HC := Aside0.mk hc0_1
  have HS := Aside0.mk hS
  have HN := Aside0.mk hn
  have HW := Aside0.mk haw
  have q1 : (e != 0) = true := bne_iff_ne.mpr he
  have q2 : (e == 0) = false := beq_eq_false_iff_ne.mpr he
  have q3 : (f == e) = true := beq_iff_eq.mpr hef
  clear he hef
  clear hr0_1 hc0_1 hS haw hn
  go_enter Try.func11, Try.ntmps11
  go_wp2_with fail
  go_quiet (fail)
  go_wp2_with fail
  have hW : Below w.heap.size w ((((w.alloc (.cells #[.int .u64 a0_0, .slice A0_1 l0_1.length c0_1] 25 (0, 0))).alloc (.cells #[.int .u64 n, .int .u64 m] 53 (0, 0))).drewN nq)) := pw_below_drewN (below_alloc (below_alloc (Below.refl _ _) _) _) nq
  have hX : ((((w.alloc (.cells #[.int .u64 a0_0, .slice A0_1 l0_1.length c0_1] 25 (0, 0))).alloc (.cells #[.int .u64 n, .int .u64 m] 53 (0, 0))).drewN nq)).heap[w.heap.size]? = some (.cells #[.int .u64 a0_0, .slice A0_1 l0_1.length c0_1] 25 (0, 0)) := blk_drewN (blk_alloc (blk_new _ _) _) nq
  refine (table_Share.calls k a0_0 _ _ l0_1 a1 sv e _ (Kd.C_below HR.out hW) HC.out HS.out).mono ?_
  rintro e0 w1 ⟨rfl, hb1⟩
  have HB1 := Aside0.mk (below_step hW hb1)
  have HX1 := Aside0.mk (blk_below hX hb1)
  have hz0 : w1.cell? ⟨w.heap.size, 0, none⟩ = some (.int .u64 a0_0) := (blk_cell HX1.out 0).trans rfl
  have hz1 : w1.cell? ⟨w.heap.size, 1, none⟩ = some (.slice A0_1 l0_1.length c0_1) := (blk_cell HX1.out 1).trans rfl
  clear hb1 hW hX
  go_wp2_with fail
  refine (table_Supply.calls k a0_0 _ _ l0_1 a1 n x f _ (Kd.C_below HR.out HB1.out) HC.out HN.out).mono ?_
  rintro e0 w2 ⟨rfl, hb2⟩
  have HB2 := Aside0.mk (below_step HB1.out hb2)
  clear hb2 hz0 hz1
  go_wp2_with fail
  refine (rotalaw16_awake.calls k true _ HW.out).mono ?_
  rintro e0 w3 ⟨rfl, hb3⟩
  have HB3 := Aside0.mk (below_step HB2.out hb3)
  clear hb3
  go_wp2
  go_ret
  exact ⟨rfl, HB3.out⟩

set_option maxHeartbeats 1000000 in
set_option maxRecDepth 100000 in
theorem adds_n (he : (e == 0) = true) (he1 : (e != 0) = false) (hbig : n > 1099511627776) (x f : Int) (hn : table_Supply.f k a0_0 l0_1 a1 n = some (x, f)) :
    Calls Try.prog 11 #[.agg #[.int .u64 a0_0, .slice A0_1 l0_1.length c0_1], .int .i64 a1, .agg #[.int .u64 n, .int .u64 m]] w fun e w' => e = .returned (.bool true) ∧ Below w.heap.size w w' := by
  have hu25 := Try.underlying25
  have HR := Aside0.mk hr0_1
  have HC := Aside0.mk hc0_1
  have HS := Aside0.mk hS
  have HN := Aside0.mk hn
  have HW := Aside0.mk haw
  have q1 : decide ((1099511627776 : Int) < n) = true := decide_eq_true hbig
  clear hbig
  clear hr0_1 hc0_1 hS haw hn
  go_enter Try.func11, Try.ntmps11
  go_wp2_with fail
  go_quiet (fail)
  go_wp2_with fail
  have hW : Below w.heap.size w ((((w.alloc (.cells #[.int .u64 a0_0, .slice A0_1 l0_1.length c0_1] 25 (0, 0))).alloc (.cells #[.int .u64 n, .int .u64 m] 53 (0, 0))).drewN nq)) := pw_below_drewN (below_alloc (below_alloc (Below.refl _ _) _) _) nq
  have hX : ((((w.alloc (.cells #[.int .u64 a0_0, .slice A0_1 l0_1.length c0_1] 25 (0, 0))).alloc (.cells #[.int .u64 n, .int .u64 m] 53 (0, 0))).drewN nq)).heap[w.heap.size]? = some (.cells #[.int .u64 a0_0, .slice A0_1 l0_1.length c0_1] 25 (0, 0)) := blk_drewN (blk_alloc (blk_new _ _) _) nq
  refine (table_Share.calls k a0_0 _ _ l0_1 a1 sv e _ (Kd.C_below HR.out hW) HC.out HS.out).mono ?_
  rintro e0 w1 ⟨rfl, hb1⟩
  have HB1 := Aside0.mk (below_step hW hb1)
  have HX1 := Aside0.mk (blk_below hX hb1)
  have hz0 : w1.cell? ⟨w.heap.size, 0, none⟩ = some (.int .u64 a0_0) := (blk_cell HX1.out 0).trans rfl
  have hz1 : w1.cell? ⟨w.heap.size, 1, none⟩ = some (.slice A0_1 l0_1.length c0_1) := (blk_cell HX1.out 1).trans rfl
  clear hb1 hW hX
  go_wp2_with fail
  refine (table_Supply.calls k a0_0 _ _ l0_1 a1 n x f _ (Kd.C_below HR.out HB1.out) HC.out HN.out).mono ?_
  rintro e0 w2 ⟨rfl, hb2⟩
  have HB2 := Aside0.mk (below_step HB1.out hb2)
  clear hb2 hz0 hz1
  go_wp2_with fail
  refine (rotalaw16_awake.calls k true _ HW.out).mono ?_
  rintro e0 w3 ⟨rfl, hb3⟩
  have HB3 := Aside0.mk (below_step HB2.out hb3)
  clear hb3
  go_wp2
  go_ret
  exact ⟨rfl, HB3.out⟩

set_option maxHeartbeats 1000000 in
set_option maxRecDepth 100000 in
theorem adds_m (he : (e == 0) = true) (he1 : (e != 0) = false) (hbn : ¬ n > 1099511627776) (hbig : m > 1099511627776) (x f : Int) (hn : table_Supply.f k a0_0 l0_1 a1 n = some (x, f)) :
    Calls Try.prog 11 #[.agg #[.int .u64 a0_0, .slice A0_1 l0_1.length c0_1], .int .i64 a1, .agg #[.int .u64 n, .int .u64 m]] w fun e w' => e = .returned (.bool true) ∧ Below w.heap.size w w' := by
  have hu25 := Try.underlying25
  have HR := Aside0.mk hr0_1
  have HC := Aside0.mk hc0_1
  have HS := Aside0.mk hS
  have HN := Aside0.mk hn
  have HW := Aside0.mk haw
  have q0 : decide ((1099511627776 : Int) < n) = false := decide_eq_false hbn
  have q1 : decide ((1099511627776 : Int) < m) = true := decide_eq_true hbig
  clear hbig hbn
  clear hr0_1 hc0_1 hS haw hn
  go_enter Try.func11, Try.ntmps11
  go_wp2_with fail
  go_quiet (fail)
  go_wp2_with fail
  have hW : Below w.heap.size w ((((w.alloc (.cells #[.int .u64 a0_0, .slice A0_1 l0_1.length c0_1] 25 (0, 0))).alloc (.cells #[.int .u64 n, .int .u64 m] 53 (0, 0))).drewN nq)) := pw_below_drewN (below_alloc (below_alloc (Below.refl _ _) _) _) nq
  have hX : ((((w.alloc (.cells #[.int .u64 a0_0, .slice A0_1 l0_1.length c0_1] 25 (0, 0))).alloc (.cells #[.int .u64 n, .int .u64 m] 53 (0, 0))).drewN nq)).heap[w.heap.size]? = some (.cells #[.int .u64 a0_0, .slice A0_1 l0_1.length c0_1] 25 (0, 0)) := blk_drewN (blk_alloc (blk_new _ _) _) nq
  refine (table_Share.calls k a0_0 _ _ l0_1 a1 sv e _ (Kd.C_below HR.out hW) HC.out HS.out).mono ?_
  rintro e0 w1 ⟨rfl, hb1⟩
  have HB1 := Aside0.mk (below_step hW hb1)
  have HX1 := Aside0.mk (blk_below hX hb1)
  have hz0 : w1.cell? ⟨w.heap.size, 0, none⟩ = some (.int .u64 a0_0) := (blk_cell HX1.out 0).trans rfl
  have hz1 : w1.cell? ⟨w.heap.size, 1, none⟩ = some (.slice A0_1 l0_1.length c0_1) := (blk_cell HX1.out 1).trans rfl
  clear hb1 hW hX
  go_wp2_with fail
  refine (table_Supply.calls k a0_0 _ _ l0_1 a1 n x f _ (Kd.C_below HR.out HB1.out) HC.out HN.out).mono ?_
  rintro e0 w2 ⟨rfl, hb2⟩
  have HB2 := Aside0.mk (below_step HB1.out hb2)
  clear hb2 hz0 hz1
  go_wp2_with fail
  refine (rotalaw16_awake.calls k true _ HW.out).mono ?_
  rintro e0 w3 ⟨rfl, hb3⟩
  have HB3 := Aside0.mk (below_step HB2.out hb3)
  clear hb3
  go_wp2
  go_ret
  exact ⟨rfl, HB3.out⟩

end
end Go.Proofs.Ytiacikmignjdoaa.QTableAdds

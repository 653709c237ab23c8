/- TableAdds, walked: what it comes to out of what Share and Supply tell.
   Conditions: the table reads as a list of lists of slots; what Share and Supply tell is known. -/
import Derived.Test.YtiacikmignjdoaaTableAddsSh
import Derived.Test.YtiacikmignjdoaaTableAddsSu
import Derived.Test.YtiacikmignjdoaaQTableAddsx2
import Derived.Deep.QuietTactic
import Derived.BigQuiet
set_option linter.unusedVariables false
set_option linter.unusedSimpArgs false
namespace Go.Proofs.Ytiacikmignjdoaa.QTableAdds
open Go.RowKit Go.Proofs.Ytiacikmignjdoaa.Arr Go.Proofs.Ytiacikmignjdoaa.KTableAdds Go.Proofs.YtiacikmignjdoaaW.PrintWords Go.Proofs.YtiacikmignjdoaaW.PrintLast Go.Proofs.YtiacikmignjdoaaW.PrintMore

section
variable (k : Nat) (a0_0 : Int) (A0_1 : Option Addr) (c0_1 : Nat) (l0_1 : List (List (S48))) (a1 n m : Int) (w : World) (hr0_1 : Kd.C (Kd.slice 48 k48) w A0_1 l0_1.length l0_1) (hc0_1 : l0_1.length ≤ c0_1)
  (sv e : Int) (hS : table_Share.f k a0_0 l0_1 a1 = some (sv, e)) (haw : rotalaw16_awake.f k = some true)
include hr0_1 hc0_1 hS haw

set_option maxHeartbeats 1000000 in
set_option maxRecDepth 100000 in
theorem adds_small (he : e = 0) (h0 : 0 ≤ n ∧ n ≤ 1099511627776) (h1 : 0 ≤ m ∧ m ≤ 1099511627776) (hF : 1 ≤ a0_0 ∧ a0_0 ≤ 65536) (xa xb xc xd : Int)
    (ha : table_Supply.f k a0_0 l0_1 a1 n = some (xa, 0)) (hb : table_Supply.f k a0_0 l0_1 a1 m = some (xb, 0)) (hc : table_Supply.f k a0_0 l0_1 a1 (n + m) = some (xc, 0)) (hd : table_Supply.f k a0_0 l0_1 a1 (n % 1000 * a0_0) = some (xd, 0))
    (hxc : IntKind.u64.wrap (xa + xb) ≤ xc) (hxd : xd = IntKind.u64.wrap (n % 1000 * sv)) :
    Calls Try.prog 11 #[.agg #[.int .u64 a0_0, .slice A0_1 l0_1.length c0_1], .int .i64 a1, .agg #[.int .u64 n, .int .u64 m]] w fun e w' => e = .returned (.bool true) ∧ Below w.heap.size w w' := by
  subst he
  have hu25 := Try.underlying25
  have HR := Aside0.mk hr0_1
  have HC := Aside0.mk hc0_1
  have HS := Aside0.mk hS
  have HA := Aside0.mk ha
  have HB := Aside0.mk hb
  have HCC := Aside0.mk hc
  have HD := Aside0.mk hd
  have HW := Aside0.mk haw
  have q1 : decide ((1099511627776 : Int) < n) = false := decide_eq_false (by omega)
  have q2 : decide ((1099511627776 : Int) < m) = false := decide_eq_false (by omega)
  have q3 : decide (IntKind.u64.wrap (xa + xb) ≤ xc) = true := decide_eq_true hxc
  have q4 : (xd == IntKind.u64.wrap (n % 1000 * sv)) = true := beq_iff_eq.mpr hxd
  have m0 : 0 ≤ n % 1000 := by omega
  have m1 : n % 1000 < 1000 := by omega
  have p0 : 0 ≤ n % 1000 * a0_0 := Int.mul_nonneg m0 (by omega)
  have p1 : n % 1000 * a0_0 ≤ 65536000 := by
    have h1 : n % 1000 * a0_0 ≤ 1000 * a0_0 := Int.mul_le_mul_of_nonneg_right (by omega) (by omega)
    omega
  clear hr0_1 hc0_1 hS haw ha hb hc hd hxc hxd
  go_enter Try.func11, Try.ntmps11
  go_wp2_with fail
  go_quiet (fail)
  go_wp2_with fail
  have hW : Below w.heap.size w ((((w.alloc (.cells #[.int .u64 a0_0, .slice A0_1 l0_1.length c0_1] 25 (0, 0))).alloc (.cells #[.int .u64 n, .int .u64 m] 53 (0, 0))).drewN nq)) := pw_below_drewN (below_alloc (below_alloc (Below.refl _ _) _) _) nq
  have hX : ((((w.alloc (.cells #[.int .u64 a0_0, .slice A0_1 l0_1.length c0_1] 25 (0, 0))).alloc (.cells #[.int .u64 n, .int .u64 m] 53 (0, 0))).drewN nq)).heap[w.heap.size]? = some (.cells #[.int .u64 a0_0, .slice A0_1 l0_1.length c0_1] 25 (0, 0)) := blk_drewN (blk_alloc (blk_new _ _) _) nq
  refine (table_Share.calls k a0_0 _ _ l0_1 a1 sv 0 _ (Kd.C_below HR.out hW) HC.out HS.out).mono ?_
  rintro e0 w1 ⟨rfl, hb1⟩
  have HB1 := Aside0.mk (below_step hW hb1)
  have HX1 := Aside0.mk (blk_below hX hb1)
  have hz0 : w1.cell? ⟨w.heap.size, 0, none⟩ = some (.int .u64 a0_0) := (blk_cell HX1.out 0).trans rfl
  have hz1 : w1.cell? ⟨w.heap.size, 1, none⟩ = some (.slice A0_1 l0_1.length c0_1) := (blk_cell HX1.out 1).trans rfl
  clear hb1 hW hX
  go_wp2_with fail
  refine (table_Supply.calls k a0_0 _ _ l0_1 a1 n xa 0 _ (Kd.C_below HR.out HB1.out) HC.out HA.out).mono ?_
  rintro e0 w2 ⟨rfl, hb2⟩
  have HB2 := Aside0.mk (below_step HB1.out hb2)
  have HX2 := Aside0.mk (blk_below HX1.out hb2)
  clear hb2 hz0 hz1
  have hz0 : w2.cell? ⟨w.heap.size, 0, none⟩ = some (.int .u64 a0_0) := (blk_cell HX2.out 0).trans rfl
  have hz1 : w2.cell? ⟨w.heap.size, 1, none⟩ = some (.slice A0_1 l0_1.length c0_1) := (blk_cell HX2.out 1).trans rfl
  go_wp2_with fail
  refine (table_Supply.calls k a0_0 _ _ l0_1 a1 m xb 0 _ (Kd.C_below HR.out HB2.out) HC.out HB.out).mono ?_
  rintro e0 w3 ⟨rfl, hb2⟩
  have HB3 := Aside0.mk (below_step HB2.out hb2)
  have HX3 := Aside0.mk (blk_below HX2.out hb2)
  clear hb2 hz0 hz1
  have hz0 : w3.cell? ⟨w.heap.size, 0, none⟩ = some (.int .u64 a0_0) := (blk_cell HX3.out 0).trans rfl
  have hz1 : w3.cell? ⟨w.heap.size, 1, none⟩ = some (.slice A0_1 l0_1.length c0_1) := (blk_cell HX3.out 1).trans rfl
  go_wp2_with fail
  refine (table_Supply.calls k a0_0 _ _ l0_1 a1 (n + m) xc 0 _ (Kd.C_below HR.out HB3.out) HC.out HCC.out).mono ?_
  rintro e0 w4 ⟨rfl, hb2⟩
  have HB4 := Aside0.mk (below_step HB3.out hb2)
  have HX4 := Aside0.mk (blk_below HX3.out hb2)
  clear hb2 hz0 hz1
  have hz0 : w4.cell? ⟨w.heap.size, 0, none⟩ = some (.int .u64 a0_0) := (blk_cell HX4.out 0).trans rfl
  have hz1 : w4.cell? ⟨w.heap.size, 1, none⟩ = some (.slice A0_1 l0_1.length c0_1) := (blk_cell HX4.out 1).trans rfl
  go_wp2_with fail
  refine (table_Supply.calls k a0_0 _ _ l0_1 a1 (n % 1000 * a0_0) xd 0 _ (Kd.C_below HR.out HB4.out) HC.out HD.out).mono ?_
  rintro e0 w5 ⟨rfl, hb2⟩
  have HB5 := Aside0.mk (below_step HB4.out hb2)
  clear hb2 hz0 hz1
  go_wp2_with fail
  refine (rotalaw16_awake.calls k true _ HW.out).mono ?_
  rintro e0 w6 ⟨rfl, hb3⟩
  have HB6 := Aside0.mk (below_step HB5.out hb3)
  clear hb3
  go_wp2
  go_ret
  exact ⟨rfl, HB6.out⟩
end
end Go.Proofs.Ytiacikmignjdoaa.QTableAdds

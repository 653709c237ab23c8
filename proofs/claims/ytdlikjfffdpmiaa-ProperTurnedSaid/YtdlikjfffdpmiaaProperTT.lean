/- The reference's tables of operations: an operation's row; what fields a shape has. Conditions: none.
   The reference's tables of operations: an operation's row; what fields a shape has. Conditions: none. -/
import Derived.Test.YtdlikjfffdpmiaaQProperx0
set_option linter.unusedVariables false
set_option linter.unusedSimpArgs false
namespace Go.Proofs.Ytdlikjfffdpmiaa.QProper
open Go.RowKit Go.Proofs.YtdlikjfffdpmiaaW.PrintWords Go.Proofs.YtdlikjfffdpmiaaW.PrintLast Go.Proofs.YtdlikjfffdpmiaaW.PrintMore
def rotaref06_later.f (a0 : Int) : Option (ByteArray × Int × Int × ByteArray × ByteArray × Bool) := if a0 = 30 then (some ((⟨#[114, 101, 99, 118]⟩ : ByteArray), 3, 2, (⟨#[99]⟩ : ByteArray), (⟨#[97, 98]⟩ : ByteArray), true)) else (if a0 = 31 then (some ((⟨#[99, 108, 111, 115, 101]⟩ : ByteArray), 1, 2, (⟨#[97]⟩ : ByteArray), (⟨#[]⟩ : ByteArray), true)) else (if a0 = 32 then (some ((⟨#[108, 101, 110]⟩ : ByteArray), 2, 1, (⟨#[98]⟩ : ByteArray), (⟨#[97]⟩ : ByteArray), true)) else (if a0 = 33 then (some ((⟨#[99, 97, 112]⟩ : ByteArray), 2, 1, (⟨#[98]⟩ : ByteArray), (⟨#[97]⟩ : ByteArray), true)) else (if a0 = 34 then (some ((⟨#[115, 101, 108, 101, 99, 116]⟩ : ByteArray), 5, 4, (⟨#[42]⟩ : ByteArray), (⟨#[42]⟩ : ByteArray), true)) else (if a0 = 35 then (some ((⟨#[108, 111, 99, 107]⟩ : ByteArray), 1, 2, (⟨#[97]⟩ : ByteArray), (⟨#[]⟩ : ByteArray), true)) else (if a0 = 36 then (some ((⟨#[117, 110, 108, 111, 99, 107]⟩ : ByteArray), 1, 2, (⟨#[97]⟩ : ByteArray), (⟨#[]⟩ : ByteArray), true)) else (if a0 = 37 then (some ((⟨#[114, 108, 111, 99, 107]⟩ : ByteArray), 1, 2, (⟨#[97]⟩ : ByteArray), (⟨#[]⟩ : ByteArray), true)) else (if a0 = 38 then (some ((⟨#[114, 117, 110, 108, 111, 99, 107]⟩ : ByteArray), 1, 2, (⟨#[97]⟩ : ByteArray), (⟨#[]⟩ : ByteArray), true)) else (if a0 = 39 then (some ((⟨#[119, 97, 100, 100]⟩ : ByteArray), 2, 2, (⟨#[97, 98]⟩ : ByteArray), (⟨#[]⟩ : ByteArray), true)) else (if a0 = 40 then (some ((⟨#[119, 100, 111, 110, 101]⟩ : ByteArray), 1, 2, (⟨#[97]⟩ : ByteArray), (⟨#[]⟩ : ByteArray), true)) else (if a0 = 41 then (some ((⟨#[119, 119, 97, 105, 116]⟩ : ByteArray), 1, 2, (⟨#[97]⟩ : ByteArray), (⟨#[]⟩ : ByteArray), true)) else (if a0 = 42 then (some ((⟨#[99, 119, 97, 105, 116]⟩ : ByteArray), 2, 3, (⟨#[97, 98]⟩ : ByteArray), (⟨#[]⟩ : ByteArray), true)) else (if a0 = 43 then (some ((⟨#[115, 105, 103, 110, 97, 108]⟩ : ByteArray), 1, 2, (⟨#[97]⟩ : ByteArray), (⟨#[]⟩ : ByteArray), true)) else (if a0 = 44 then (some ((⟨#[98, 114, 111, 97, 100, 99, 97, 115, 116]⟩ : ByteArray), 1, 3, (⟨#[97]⟩ : ByteArray), (⟨#[]⟩ : ByteArray), true)) else (if a0 = 45 then (some ((⟨#[97, 99, 113, 117, 105, 114, 101]⟩ : ByteArray), 1, 2, (⟨#[97]⟩ : ByteArray), (⟨#[]⟩ : ByteArray), true)) else (if a0 = 46 then (some ((⟨#[114, 101, 108, 101, 97, 115, 101]⟩ : ByteArray), 1, 2, (⟨#[97]⟩ : ByteArray), (⟨#[]⟩ : ByteArray), true)) else (if a0 = 47 then (some ((⟨#[108, 111, 97, 100]⟩ : ByteArray), 2, 2, (⟨#[98]⟩ : ByteArray), (⟨#[97]⟩ : ByteArray), true)) else (if a0 = 48 then (some ((⟨#[115, 116, 111, 114, 101]⟩ : ByteArray), 2, 2, (⟨#[97, 98]⟩ : ByteArray), (⟨#[]⟩ : ByteArray), true)) else (if a0 = 49 then (some ((⟨#[115, 119, 97, 112]⟩ : ByteArray), 3, 3, (⟨#[97, 98, 99]⟩ : ByteArray), (⟨#[97]⟩ : ByteArray), true)) else (if a0 = 50 then (some ((⟨#[102, 101, 116, 99, 104]⟩ : ByteArray), 3, 3, (⟨#[98, 99]⟩ : ByteArray), (⟨#[97]⟩ : ByteArray), true)) else (if a0 = 51 then (some ((⟨#[105, 110, 112, 117, 116]⟩ : ByteArray), 2, 2, (⟨#[]⟩ : ByteArray), (⟨#[97, 98]⟩ : ByteArray), true)) else (if a0 = 52 then (some ((⟨#[111, 117, 116, 112, 117, 116]⟩ : ByteArray), 1, 2, (⟨#[97]⟩ : ByteArray), (⟨#[]⟩ : ByteArray), true)) else (if a0 = 53 then (some ((⟨#[112, 117, 116]⟩ : ByteArray), 3, 2, (⟨#[97, 98]⟩ : ByteArray), (⟨#[99]⟩ : ByteArray), true)) else (if a0 = 54 then (some ((⟨#[103, 101, 116]⟩ : ByteArray), 3, 2, (⟨#[99]⟩ : ByteArray), (⟨#[97, 98]⟩ : ByteArray), true)) else (if a0 = 55 then (some ((⟨#[97, 102, 116, 101, 114]⟩ : ByteArray), 3, 3, (⟨#[98, 99]⟩ : ByteArray), (⟨#[97]⟩ : ByteArray), true)) else (if a0 = 56 then (some ((⟨#[101, 118, 101, 114, 121]⟩ : ByteArray), 3, 3, (⟨#[98, 99]⟩ : ByteArray), (⟨#[97]⟩ : ByteArray), true)) else (if a0 = 57 then (some ((⟨#[115, 116, 111, 112]⟩ : ByteArray), 2, 2, (⟨#[98]⟩ : ByteArray), (⟨#[97]⟩ : ByteArray), true)) else (if a0 = 58 then (some ((⟨#[116, 114, 97, 112]⟩ : ByteArray), 4, 1, (⟨#[]⟩ : ByteArray), (⟨#[]⟩ : ByteArray), true)) else (some ((⟨#[]⟩ : ByteArray), 0, 0, (⟨#[]⟩ : ByteArray), (⟨#[]⟩ : ByteArray), false))))))))))))))))))))))))))))))
set_option maxHeartbeats 40000000 in
set_option maxRecDepth 100000 in
theorem rotaref06_later.calls (a0 : Int) (r1 : ByteArray) (r2 : Int) (r3 : Int) (r4 : ByteArray) (r5 : ByteArray) (r6 : Bool) (w : World) (h : rotaref06_later.f a0 = some (r1, r2, r3, r4, r5, r6)) :
    Calls Try.prog 69 #[.int .i64 a0] w fun e w' => e = .returned (.tuple #[.agg #[.string r1, .int .i64 r2, .int .i64 r3, .string r4, .string r5], .bool r6]) ∧ Below w.heap.size w w' := by
  have hu78 := Try.underlying78
  have HB := Aside0.mk (Below.refl w.heap.size w)
  by_cases hc : 30 ≤ a0 ∧ a0 ≤ 58
  · have hcs : a0 = 30 ∨ a0 = 31 ∨ a0 = 32 ∨ a0 = 33 ∨ a0 = 34 ∨ a0 = 35 ∨ a0 = 36 ∨ a0 = 37 ∨ a0 = 38 ∨ a0 = 39 ∨ a0 = 40 ∨ a0 = 41 ∨ a0 = 42 ∨ a0 = 43 ∨ a0 = 44 ∨ a0 = 45 ∨ a0 = 46 ∨ a0 = 47 ∨ a0 = 48 ∨ a0 = 49 ∨ a0 = 50 ∨ a0 = 51 ∨ a0 = 52 ∨ a0 = 53 ∨ a0 = 54 ∨ a0 = 55 ∨ a0 = 56 ∨ a0 = 57 ∨ a0 = 58 := by omega
    clear hc
    rcases hcs with rfl | rfl | rfl | rfl | rfl | rfl | rfl | rfl | rfl | rfl | rfl | rfl | rfl | rfl | rfl | rfl | rfl | rfl | rfl | rfl | rfl | rfl | rfl | rfl | rfl | rfl | rfl | rfl | rfl
    all_goals
      simp only [rotaref06_later.f, Int.reduceEq, if_true, if_false, Option.some.injEq, Prod.mk.injEq] at h
      obtain ⟨e1, e2, e3, e4, e5, rfl⟩ := h
      have E1 := Aside0.mk e1
      have E2 := Aside0.mk e2
      have E3 := Aside0.mk e3
      have E4 := Aside0.mk e4
      have E5 := Aside0.mk e5
      clear e1 e2 e3 e4 e5
      go_enter Try.func69, Try.ntmps69
      go_wp2_with (first | ((with_reducible refine gate_dst (N := 2) rfl ?_); refine box_event ?hg (N := 2) ?hd (cs := #[.string (⟨#[]⟩ : ByteArray), .int .i64 0, .int .i64 0, .string (⟨#[]⟩ : ByteArray), .string (⟨#[]⟩ : ByteArray)]) (t := 78) ?hr ?_; (case hd => rfl); (case hg => rfl); (case hr => first | (go_simp; done) | (go_simp; rfl)); intro g hg w3 hbox hb; have n0_ := Aside0.mk (below_step (by repeat (first | (with_reducible first | exact HB.out | apply below_alloc | apply pw_below_drewN | apply below_drew1) | exact HB.out)) hb); have BK := Aside0.mk hbox; have GE := Aside0.mk ((by rw [hg]; exact (below_size (by repeat (first | (with_reducible first | exact HB.out | apply below_alloc | apply pw_below_drewN | apply below_drew1) | exact HB.out)))) : w.heap.size ≤ g); clear HB; have HB := n0_; clear n0_ hb hbox hg; have hc0 : w3.cell? ⟨g, 0, none⟩ = some (.string (⟨#[]⟩ : ByteArray)) := (blk_cell BK.out 0).trans rfl; have hc1 : w3.cell? ⟨g, 1, none⟩ = some (.int .i64 0) := (blk_cell BK.out 1).trans rfl; have hc2 : w3.cell? ⟨g, 2, none⟩ = some (.int .i64 0) := (blk_cell BK.out 2).trans rfl; have hc3 : w3.cell? ⟨g, 3, none⟩ = some (.string (⟨#[]⟩ : ByteArray)) := (blk_cell BK.out 3).trans rfl; have hc4 : w3.cell? ⟨g, 4, none⟩ = some (.string (⟨#[]⟩ : ByteArray)) := (blk_cell BK.out 4).trans rfl; have hf0 := blk_frozen BK.out 0; have hf1 := blk_frozen BK.out 1; have hf2 := blk_frozen BK.out 2; have hf3 := blk_frozen BK.out 3; have hf4 := blk_frozen BK.out 4))
      have hb := blk_set (blk_set (blk_set (blk_set (blk_set BK.out 0 (.string r1)) 1 (.int .i64 r2)) 2 (.int .i64 r3)) 3 (.string r4)) 4 (.string r5)
      rw [← E1.out, ← E2.out, ← E3.out, ← E4.out, ← E5.out] at hb
      rw [← E1.out, ← E2.out, ← E3.out, ← E4.out, ← E5.out]
      refine bodyPost_ret (results_ct rfl _ _ g 78 _ (0, 0) _ rfl hb Try.underlying78 rfl (by kernel_rfl)) rfl ?_
      exact ⟨by first | rfl | (simp [*]; done), by repeat (first | (with_reducible first | exact HB.out | apply below_alloc | apply pw_below_drewN | apply below_drew1 | refine below_set ?_ GE.out) | exact HB.out)⟩
  · simp only [rotaref06_later.f, if_neg (show ¬ a0 = 30 by omega), if_neg (show ¬ a0 = 31 by omega), if_neg (show ¬ a0 = 32 by omega), if_neg (show ¬ a0 = 33 by omega), if_neg (show ¬ a0 = 34 by omega), if_neg (show ¬ a0 = 35 by omega), if_neg (show ¬ a0 = 36 by omega), if_neg (show ¬ a0 = 37 by omega), if_neg (show ¬ a0 = 38 by omega), if_neg (show ¬ a0 = 39 by omega), if_neg (show ¬ a0 = 40 by omega), if_neg (show ¬ a0 = 41 by omega), if_neg (show ¬ a0 = 42 by omega), if_neg (show ¬ a0 = 43 by omega), if_neg (show ¬ a0 = 44 by omega), if_neg (show ¬ a0 = 45 by omega), if_neg (show ¬ a0 = 46 by omega), if_neg (show ¬ a0 = 47 by omega), if_neg (show ¬ a0 = 48 by omega), if_neg (show ¬ a0 = 49 by omega), if_neg (show ¬ a0 = 50 by omega), if_neg (show ¬ a0 = 51 by omega), if_neg (show ¬ a0 = 52 by omega), if_neg (show ¬ a0 = 53 by omega), if_neg (show ¬ a0 = 54 by omega), if_neg (show ¬ a0 = 55 by omega), if_neg (show ¬ a0 = 56 by omega), if_neg (show ¬ a0 = 57 by omega), if_neg (show ¬ a0 = 58 by omega)] at h
    simp only [Option.some.injEq, Prod.mk.injEq] at h
    obtain ⟨e1, e2, e3, e4, e5, rfl⟩ := h
    have E1 := Aside0.mk e1
    have E2 := Aside0.mk e2
    have E3 := Aside0.mk e3
    have E4 := Aside0.mk e4
    have E5 := Aside0.mk e5
    clear e1 e2 e3 e4 e5
    have b30 : (a0 == 30) = false := beq_eq_false_iff_ne.mpr (by omega)
    have b31 : (a0 == 31) = false := beq_eq_false_iff_ne.mpr (by omega)
    have b32 : (a0 == 32) = false := beq_eq_false_iff_ne.mpr (by omega)
    have b33 : (a0 == 33) = false := beq_eq_false_iff_ne.mpr (by omega)
    have b34 : (a0 == 34) = false := beq_eq_false_iff_ne.mpr (by omega)
    have b35 : (a0 == 35) = false := beq_eq_false_iff_ne.mpr (by omega)
    have b36 : (a0 == 36) = false := beq_eq_false_iff_ne.mpr (by omega)
    have b37 : (a0 == 37) = false := beq_eq_false_iff_ne.mpr (by omega)
    have b38 : (a0 == 38) = false := beq_eq_false_iff_ne.mpr (by omega)
    have b39 : (a0 == 39) = false := beq_eq_false_iff_ne.mpr (by omega)
    have b40 : (a0 == 40) = false := beq_eq_false_iff_ne.mpr (by omega)
    have b41 : (a0 == 41) = false := beq_eq_false_iff_ne.mpr (by omega)
    have b42 : (a0 == 42) = false := beq_eq_false_iff_ne.mpr (by omega)
    have b43 : (a0 == 43) = false := beq_eq_false_iff_ne.mpr (by omega)
    have b44 : (a0 == 44) = false := beq_eq_false_iff_ne.mpr (by omega)
    have b45 : (a0 == 45) = false := beq_eq_false_iff_ne.mpr (by omega)
    have b46 : (a0 == 46) = false := beq_eq_false_iff_ne.mpr (by omega)
    have b47 : (a0 == 47) = false := beq_eq_false_iff_ne.mpr (by omega)
    have b48 : (a0 == 48) = false := beq_eq_false_iff_ne.mpr (by omega)
    have b49 : (a0 == 49) = false := beq_eq_false_iff_ne.mpr (by omega)
    have b50 : (a0 == 50) = false := beq_eq_false_iff_ne.mpr (by omega)
    have b51 : (a0 == 51) = false := beq_eq_false_iff_ne.mpr (by omega)
    have b52 : (a0 == 52) = false := beq_eq_false_iff_ne.mpr (by omega)
    have b53 : (a0 == 53) = false := beq_eq_false_iff_ne.mpr (by omega)
    have b54 : (a0 == 54) = false := beq_eq_false_iff_ne.mpr (by omega)
    have b55 : (a0 == 55) = false := beq_eq_false_iff_ne.mpr (by omega)
    have b56 : (a0 == 56) = false := beq_eq_false_iff_ne.mpr (by omega)
    have b57 : (a0 == 57) = false := beq_eq_false_iff_ne.mpr (by omega)
    have b58 : (a0 == 58) = false := beq_eq_false_iff_ne.mpr (by omega)
    clear hc
    go_enter Try.func69, Try.ntmps69
    go_wp2_with (first | ((with_reducible refine gate_dst (N := 2) rfl ?_); refine box_event ?hg (N := 2) ?hd (cs := #[.string (⟨#[]⟩ : ByteArray), .int .i64 0, .int .i64 0, .string (⟨#[]⟩ : ByteArray), .string (⟨#[]⟩ : ByteArray)]) (t := 78) ?hr ?_; (case hd => rfl); (case hg => rfl); (case hr => first | (go_simp; done) | (go_simp; rfl)); intro g hg w3 hbox hb; have n0_ := Aside0.mk (below_step (by repeat (first | (with_reducible first | exact HB.out | apply below_alloc | apply pw_below_drewN | apply below_drew1) | exact HB.out)) hb); have BK := Aside0.mk hbox; have GE := Aside0.mk ((by rw [hg]; exact (below_size (by repeat (first | (with_reducible first | exact HB.out | apply below_alloc | apply pw_below_drewN | apply below_drew1) | exact HB.out)))) : w.heap.size ≤ g); clear HB; have HB := n0_; clear n0_ hb hbox hg; have hc0 : w3.cell? ⟨g, 0, none⟩ = some (.string (⟨#[]⟩ : ByteArray)) := (blk_cell BK.out 0).trans rfl; have hc1 : w3.cell? ⟨g, 1, none⟩ = some (.int .i64 0) := (blk_cell BK.out 1).trans rfl; have hc2 : w3.cell? ⟨g, 2, none⟩ = some (.int .i64 0) := (blk_cell BK.out 2).trans rfl; have hc3 : w3.cell? ⟨g, 3, none⟩ = some (.string (⟨#[]⟩ : ByteArray)) := (blk_cell BK.out 3).trans rfl; have hc4 : w3.cell? ⟨g, 4, none⟩ = some (.string (⟨#[]⟩ : ByteArray)) := (blk_cell BK.out 4).trans rfl; have hf0 := blk_frozen BK.out 0; have hf1 := blk_frozen BK.out 1; have hf2 := blk_frozen BK.out 2; have hf3 := blk_frozen BK.out 3; have hf4 := blk_frozen BK.out 4))
    have hb := blk_set (blk_set (blk_set (blk_set (blk_set BK.out 0 (.string r1)) 1 (.int .i64 r2)) 2 (.int .i64 r3)) 3 (.string r4)) 4 (.string r5)
    rw [← E1.out, ← E2.out, ← E3.out, ← E4.out, ← E5.out] at hb
    rw [← E1.out, ← E2.out, ← E3.out, ← E4.out, ← E5.out]
    refine bodyPost_ret (results_ct rfl _ _ g 78 _ (0, 0) _ rfl hb Try.underlying78 rfl (by kernel_rfl)) rfl ?_
    exact ⟨by first | rfl | (simp [*]; done), by repeat (first | (with_reducible first | exact HB.out | apply below_alloc | apply pw_below_drewN | apply below_drew1 | refine below_set ?_ GE.out) | exact HB.out)⟩
end Go.Proofs.Ytdlikjfffdpmiaa.QProper
set_option linter.unusedVariables false
set_option linter.unusedSimpArgs false
namespace Go.Proofs.Ytdlikjfffdpmiaa.QProper
open Go.RowKit Go.Proofs.YtdlikjfffdpmiaaW.PrintWords Go.Proofs.YtdlikjfffdpmiaaW.PrintLast Go.Proofs.YtdlikjfffdpmiaaW.PrintMore
def rotaref06_table.f (a0 : Int) : Option (ByteArray × Int × Int × ByteArray × ByteArray × Bool) := if a0 = 1 then (some ((⟨#[110, 111, 112]⟩ : ByteArray), 0, 1, (⟨#[]⟩ : ByteArray), (⟨#[]⟩ : ByteArray), true)) else (if a0 = 2 then (some ((⟨#[115, 101, 116]⟩ : ByteArray), 6, 1, (⟨#[]⟩ : ByteArray), (⟨#[97]⟩ : ByteArray), true)) else (if a0 = 3 then (some ((⟨#[104, 105, 103, 104]⟩ : ByteArray), 5, 1, (⟨#[97]⟩ : ByteArray), (⟨#[97]⟩ : ByteArray), true)) else (if a0 = 4 then (some ((⟨#[109, 111, 118, 101]⟩ : ByteArray), 2, 1, (⟨#[98]⟩ : ByteArray), (⟨#[97]⟩ : ByteArray), true)) else (if a0 = 5 then (some ((⟨#[97, 100, 100]⟩ : ByteArray), 3, 1, (⟨#[98, 99]⟩ : ByteArray), (⟨#[97]⟩ : ByteArray), true)) else (if a0 = 6 then (some ((⟨#[115, 117, 98]⟩ : ByteArray), 3, 1, (⟨#[98, 99]⟩ : ByteArray), (⟨#[97]⟩ : ByteArray), true)) else (if a0 = 7 then (some ((⟨#[109, 117, 108]⟩ : ByteArray), 3, 3, (⟨#[98, 99]⟩ : ByteArray), (⟨#[97]⟩ : ByteArray), true)) else (if a0 = 8 then (some ((⟨#[100, 105, 118]⟩ : ByteArray), 3, 8, (⟨#[98, 99]⟩ : ByteArray), (⟨#[97]⟩ : ByteArray), true)) else (if a0 = 9 then (some ((⟨#[114, 101, 109]⟩ : ByteArray), 3, 8, (⟨#[98, 99]⟩ : ByteArray), (⟨#[97]⟩ : ByteArray), true)) else (if a0 = 10 then (some ((⟨#[97, 110, 100]⟩ : ByteArray), 3, 1, (⟨#[98, 99]⟩ : ByteArray), (⟨#[97]⟩ : ByteArray), true)) else (if a0 = 11 then (some ((⟨#[111, 114]⟩ : ByteArray), 3, 1, (⟨#[98, 99]⟩ : ByteArray), (⟨#[97]⟩ : ByteArray), true)) else (if a0 = 12 then (some ((⟨#[120, 111, 114]⟩ : ByteArray), 3, 1, (⟨#[98, 99]⟩ : ByteArray), (⟨#[97]⟩ : ByteArray), true)) else (if a0 = 13 then (some ((⟨#[115, 104, 108]⟩ : ByteArray), 3, 1, (⟨#[98, 99]⟩ : ByteArray), (⟨#[97]⟩ : ByteArray), true)) else (if a0 = 14 then (some ((⟨#[115, 104, 114]⟩ : ByteArray), 3, 1, (⟨#[98, 99]⟩ : ByteArray), (⟨#[97]⟩ : ByteArray), true)) else (if a0 = 15 then (some ((⟨#[108, 101, 115, 115]⟩ : ByteArray), 3, 1, (⟨#[98, 99]⟩ : ByteArray), (⟨#[97]⟩ : ByteArray), true)) else (if a0 = 16 then (some ((⟨#[101, 113, 117, 97, 108]⟩ : ByteArray), 3, 1, (⟨#[98, 99]⟩ : ByteArray), (⟨#[97]⟩ : ByteArray), true)) else (if a0 = 17 then (some ((⟨#[106, 117, 109, 112]⟩ : ByteArray), 4, 1, (⟨#[]⟩ : ByteArray), (⟨#[]⟩ : ByteArray), true)) else (if a0 = 18 then (some ((⟨#[122, 101, 114, 111]⟩ : ByteArray), 5, 1, (⟨#[97]⟩ : ByteArray), (⟨#[]⟩ : ByteArray), true)) else (if a0 = 19 then (some ((⟨#[115, 111, 109, 101]⟩ : ByteArray), 5, 1, (⟨#[97]⟩ : ByteArray), (⟨#[]⟩ : ByteArray), true)) else (if a0 = 20 then (some ((⟨#[99, 97, 108, 108]⟩ : ByteArray), 4, 2, (⟨#[]⟩ : ByteArray), (⟨#[]⟩ : ByteArray), true)) else (if a0 = 21 then (some ((⟨#[114, 101, 116]⟩ : ByteArray), 0, 2, (⟨#[]⟩ : ByteArray), (⟨#[]⟩ : ByteArray), true)) else (if a0 = 22 then (some ((⟨#[115, 112, 97, 119, 110]⟩ : ByteArray), 5, 4, (⟨#[42]⟩ : ByteArray), (⟨#[97]⟩ : ByteArray), true)) else (if a0 = 23 then (some ((⟨#[121, 105, 101, 108, 100]⟩ : ByteArray), 0, 1, (⟨#[]⟩ : ByteArray), (⟨#[]⟩ : ByteArray), true)) else (if a0 = 24 then (some ((⟨#[101, 120, 105, 116]⟩ : ByteArray), 0, 1, (⟨#[]⟩ : ByteArray), (⟨#[]⟩ : ByteArray), true)) else (if a0 = 25 then (some ((⟨#[115, 101, 108, 102]⟩ : ByteArray), 1, 1, (⟨#[]⟩ : ByteArray), (⟨#[97]⟩ : ByteArray), true)) else (if a0 = 26 then (some ((⟨#[110, 111, 119]⟩ : ByteArray), 1, 1, (⟨#[]⟩ : ByteArray), (⟨#[97]⟩ : ByteArray), true)) else (if a0 = 27 then (some ((⟨#[115, 108, 101, 101, 112]⟩ : ByteArray), 1, 1, (⟨#[97]⟩ : ByteArray), (⟨#[]⟩ : ByteArray), true)) else (if a0 = 28 then (some ((⟨#[109, 97, 107, 101]⟩ : ByteArray), 2, 4, (⟨#[98]⟩ : ByteArray), (⟨#[97]⟩ : ByteArray), true)) else (if a0 = 29 then (some ((⟨#[115, 101, 110, 100]⟩ : ByteArray), 2, 2, (⟨#[97, 98]⟩ : ByteArray), (⟨#[]⟩ : ByteArray), true)) else ((rotaref06_later.f a0).bind fun bt154 => (some (bt154.1, bt154.2.1, bt154.2.2.1, bt154.2.2.2.1, bt154.2.2.2.2.1, bt154.2.2.2.2.2)))))))))))))))))))))))))))))))
set_option maxHeartbeats 40000000 in
set_option maxRecDepth 100000 in
theorem rotaref06_table.calls (a0 : Int) (r1 : ByteArray) (r2 : Int) (r3 : Int) (r4 : ByteArray) (r5 : ByteArray) (r6 : Bool) (w : World) (h : rotaref06_table.f a0 = some (r1, r2, r3, r4, r5, r6)) :
    Calls Try.prog 51 #[.int .i64 a0] w fun e w' => e = .returned (.tuple #[.agg #[.string r1, .int .i64 r2, .int .i64 r3, .string r4, .string r5], .bool r6]) ∧ Below w.heap.size w w' := by
  have hu78 := Try.underlying78
  have HB := Aside0.mk (Below.refl w.heap.size w)
  by_cases hc : 1 ≤ a0 ∧ a0 ≤ 29
  · have hcs : a0 = 1 ∨ a0 = 2 ∨ a0 = 3 ∨ a0 = 4 ∨ a0 = 5 ∨ a0 = 6 ∨ a0 = 7 ∨ a0 = 8 ∨ a0 = 9 ∨ a0 = 10 ∨ a0 = 11 ∨ a0 = 12 ∨ a0 = 13 ∨ a0 = 14 ∨ a0 = 15 ∨ a0 = 16 ∨ a0 = 17 ∨ a0 = 18 ∨ a0 = 19 ∨ a0 = 20 ∨ a0 = 21 ∨ a0 = 22 ∨ a0 = 23 ∨ a0 = 24 ∨ a0 = 25 ∨ a0 = 26 ∨ a0 = 27 ∨ a0 = 28 ∨ a0 = 29 := by omega
    clear hc
    rcases hcs with rfl | rfl | rfl | rfl | rfl | rfl | rfl | rfl | rfl | rfl | rfl | rfl | rfl | rfl | rfl | rfl | rfl | rfl | rfl | rfl | rfl | rfl | rfl | rfl | rfl | rfl | rfl | rfl | rfl
    all_goals
      simp only [rotaref06_table.f, Int.reduceEq, if_true, if_false, Option.some.injEq, Prod.mk.injEq] at h
      obtain ⟨e1, e2, e3, e4, e5, rfl⟩ := h
      have E1 := Aside0.mk e1
      have E2 := Aside0.mk e2
      have E3 := Aside0.mk e3
      have E4 := Aside0.mk e4
      have E5 := Aside0.mk e5
      clear e1 e2 e3 e4 e5
      go_enter Try.func51, Try.ntmps51
      go_wp2_with (first | ((with_reducible refine gate_dst (N := 2) rfl ?_); refine box_event ?hg (N := 2) ?hd (cs := #[.string (⟨#[]⟩ : ByteArray), .int .i64 0, .int .i64 0, .string (⟨#[]⟩ : ByteArray), .string (⟨#[]⟩ : ByteArray)]) (t := 78) ?hr ?_; (case hd => rfl); (case hg => rfl); (case hr => first | (go_simp; done) | (go_simp; rfl)); intro g hg w3 hbox hb; have n0_ := Aside0.mk (below_step (by repeat (first | (with_reducible first | exact HB.out | apply below_alloc | apply pw_below_drewN | apply below_drew1) | exact HB.out)) hb); have BK := Aside0.mk hbox; have GE := Aside0.mk ((by rw [hg]; exact (below_size (by repeat (first | (with_reducible first | exact HB.out | apply below_alloc | apply pw_below_drewN | apply below_drew1) | exact HB.out)))) : w.heap.size ≤ g); clear HB; have HB := n0_; clear n0_ hb hbox hg; have hc0 : w3.cell? ⟨g, 0, none⟩ = some (.string (⟨#[]⟩ : ByteArray)) := (blk_cell BK.out 0).trans rfl; have hc1 : w3.cell? ⟨g, 1, none⟩ = some (.int .i64 0) := (blk_cell BK.out 1).trans rfl; have hc2 : w3.cell? ⟨g, 2, none⟩ = some (.int .i64 0) := (blk_cell BK.out 2).trans rfl; have hc3 : w3.cell? ⟨g, 3, none⟩ = some (.string (⟨#[]⟩ : ByteArray)) := (blk_cell BK.out 3).trans rfl; have hc4 : w3.cell? ⟨g, 4, none⟩ = some (.string (⟨#[]⟩ : ByteArray)) := (blk_cell BK.out 4).trans rfl; have hf0 := blk_frozen BK.out 0; have hf1 := blk_frozen BK.out 1; have hf2 := blk_frozen BK.out 2; have hf3 := blk_frozen BK.out 3; have hf4 := blk_frozen BK.out 4))
      have hb := blk_set (blk_set (blk_set (blk_set (blk_set BK.out 0 (.string r1)) 1 (.int .i64 r2)) 2 (.int .i64 r3)) 3 (.string r4)) 4 (.string r5)
      rw [← E1.out, ← E2.out, ← E3.out, ← E4.out, ← E5.out] at hb
      rw [← E1.out, ← E2.out, ← E3.out, ← E4.out, ← E5.out]
      refine bodyPost_ret (results_ct rfl _ _ g 78 _ (0, 0) _ rfl hb Try.underlying78 rfl (by kernel_rfl)) rfl ?_
      exact ⟨by first | rfl | (simp [*]; done), by repeat (first | (with_reducible first | exact HB.out | apply below_alloc | apply pw_below_drewN | apply below_drew1 | refine below_set ?_ GE.out) | exact HB.out)⟩
  · simp only [rotaref06_table.f, if_neg (show ¬ a0 = 1 by omega), if_neg (show ¬ a0 = 2 by omega), if_neg (show ¬ a0 = 3 by omega), if_neg (show ¬ a0 = 4 by omega), if_neg (show ¬ a0 = 5 by omega), if_neg (show ¬ a0 = 6 by omega), if_neg (show ¬ a0 = 7 by omega), if_neg (show ¬ a0 = 8 by omega), if_neg (show ¬ a0 = 9 by omega), if_neg (show ¬ a0 = 10 by omega), if_neg (show ¬ a0 = 11 by omega), if_neg (show ¬ a0 = 12 by omega), if_neg (show ¬ a0 = 13 by omega), if_neg (show ¬ a0 = 14 by omega), if_neg (show ¬ a0 = 15 by omega), if_neg (show ¬ a0 = 16 by omega), if_neg (show ¬ a0 = 17 by omega), if_neg (show ¬ a0 = 18 by omega), if_neg (show ¬ a0 = 19 by omega), if_neg (show ¬ a0 = 20 by omega), if_neg (show ¬ a0 = 21 by omega), if_neg (show ¬ a0 = 22 by omega), if_neg (show ¬ a0 = 23 by omega), if_neg (show ¬ a0 = 24 by omega), if_neg (show ¬ a0 = 25 by omega), if_neg (show ¬ a0 = 26 by omega), if_neg (show ¬ a0 = 27 by omega), if_neg (show ¬ a0 = 28 by omega), if_neg (show ¬ a0 = 29 by omega)] at h
    obtain ⟨t, ht, h⟩ := Option.bind_eq_some_iff.mp h
    obtain ⟨t1, t2, t3, t4, t5, t6⟩ := t
    have HT := Aside0.mk ht
    clear ht
    simp only [Option.some.injEq, Prod.mk.injEq] at h
    obtain ⟨rfl, rfl, rfl, rfl, rfl, rfl⟩ := h
    have b1 : (a0 == 1) = false := beq_eq_false_iff_ne.mpr (by omega)
    have b2 : (a0 == 2) = false := beq_eq_false_iff_ne.mpr (by omega)
    have b3 : (a0 == 3) = false := beq_eq_false_iff_ne.mpr (by omega)
    have b4 : (a0 == 4) = false := beq_eq_false_iff_ne.mpr (by omega)
    have b5 : (a0 == 5) = false := beq_eq_false_iff_ne.mpr (by omega)
    have b6 : (a0 == 6) = false := beq_eq_false_iff_ne.mpr (by omega)
    have b7 : (a0 == 7) = false := beq_eq_false_iff_ne.mpr (by omega)
    have b8 : (a0 == 8) = false := beq_eq_false_iff_ne.mpr (by omega)
    have b9 : (a0 == 9) = false := beq_eq_false_iff_ne.mpr (by omega)
    have b10 : (a0 == 10) = false := beq_eq_false_iff_ne.mpr (by omega)
    have b11 : (a0 == 11) = false := beq_eq_false_iff_ne.mpr (by omega)
    have b12 : (a0 == 12) = false := beq_eq_false_iff_ne.mpr (by omega)
    have b13 : (a0 == 13) = false := beq_eq_false_iff_ne.mpr (by omega)
    have b14 : (a0 == 14) = false := beq_eq_false_iff_ne.mpr (by omega)
    have b15 : (a0 == 15) = false := beq_eq_false_iff_ne.mpr (by omega)
    have b16 : (a0 == 16) = false := beq_eq_false_iff_ne.mpr (by omega)
    have b17 : (a0 == 17) = false := beq_eq_false_iff_ne.mpr (by omega)
    have b18 : (a0 == 18) = false := beq_eq_false_iff_ne.mpr (by omega)
    have b19 : (a0 == 19) = false := beq_eq_false_iff_ne.mpr (by omega)
    have b20 : (a0 == 20) = false := beq_eq_false_iff_ne.mpr (by omega)
    have b21 : (a0 == 21) = false := beq_eq_false_iff_ne.mpr (by omega)
    have b22 : (a0 == 22) = false := beq_eq_false_iff_ne.mpr (by omega)
    have b23 : (a0 == 23) = false := beq_eq_false_iff_ne.mpr (by omega)
    have b24 : (a0 == 24) = false := beq_eq_false_iff_ne.mpr (by omega)
    have b25 : (a0 == 25) = false := beq_eq_false_iff_ne.mpr (by omega)
    have b26 : (a0 == 26) = false := beq_eq_false_iff_ne.mpr (by omega)
    have b27 : (a0 == 27) = false := beq_eq_false_iff_ne.mpr (by omega)
    have b28 : (a0 == 28) = false := beq_eq_false_iff_ne.mpr (by omega)
    have b29 : (a0 == 29) = false := beq_eq_false_iff_ne.mpr (by omega)
    clear hc
    go_enter Try.func51, Try.ntmps51
    go_wp2_with (first | ((with_reducible refine gate_dst (N := 2) rfl ?_); refine box_event ?hg (N := 2) ?hd (cs := #[.string (⟨#[]⟩ : ByteArray), .int .i64 0, .int .i64 0, .string (⟨#[]⟩ : ByteArray), .string (⟨#[]⟩ : ByteArray)]) (t := 78) ?hr ?_; (case hd => rfl); (case hg => rfl); (case hr => first | (go_simp; done) | (go_simp; rfl)); intro g hg w3 hbox hb; have n0_ := Aside0.mk (below_step (by repeat (first | (with_reducible first | exact HB.out | apply below_alloc | apply pw_below_drewN | apply below_drew1) | exact HB.out)) hb); have BK := Aside0.mk hbox; have GE := Aside0.mk ((by rw [hg]; exact (below_size (by repeat (first | (with_reducible first | exact HB.out | apply below_alloc | apply pw_below_drewN | apply below_drew1) | exact HB.out)))) : w.heap.size ≤ g); clear HB; have HB := n0_; clear n0_ hb hbox hg; have hc0 : w3.cell? ⟨g, 0, none⟩ = some (.string (⟨#[]⟩ : ByteArray)) := (blk_cell BK.out 0).trans rfl; have hc1 : w3.cell? ⟨g, 1, none⟩ = some (.int .i64 0) := (blk_cell BK.out 1).trans rfl; have hc2 : w3.cell? ⟨g, 2, none⟩ = some (.int .i64 0) := (blk_cell BK.out 2).trans rfl; have hc3 : w3.cell? ⟨g, 3, none⟩ = some (.string (⟨#[]⟩ : ByteArray)) := (blk_cell BK.out 3).trans rfl; have hc4 : w3.cell? ⟨g, 4, none⟩ = some (.string (⟨#[]⟩ : ByteArray)) := (blk_cell BK.out 4).trans rfl; have hf0 := blk_frozen BK.out 0; have hf1 := blk_frozen BK.out 1; have hf2 := blk_frozen BK.out 2; have hf3 := blk_frozen BK.out 3; have hf4 := blk_frozen BK.out 4) | (go_at_call 69; refine (rotaref06_later.calls a0 t1 t2 t3 t4 t5 t6 _ HT.out).mono ?_; rintro e w4 ⟨rfl, hb⟩; have n0_ := Aside0.mk (below_step (by repeat (first | (with_reducible first | exact HB.out | apply below_alloc | apply pw_below_drewN | apply below_drew1) | exact HB.out)) hb); have n1_ := Aside0.mk (blk_below (g := g) (o := .cells #[.string (⟨#[]⟩ : ByteArray), .int .i64 0, .int .i64 0, .string (⟨#[]⟩ : ByteArray), .string (⟨#[]⟩ : ByteArray)] 78 (0, 0)) (by ((with_reducible repeat (first | refine blk_drewN ?_ _ | refine blk_drew ?_ | refine blk_alloc ?_ _))); exact BK.out) hb); clear HB BK hb hc0 hc1 hc2 hc3 hc4 hf0 hf1 hf2 hf3 hf4; have HB := n0_; have BK := n1_; clear n0_ n1_; have hc0 : w4.cell? ⟨g, 0, none⟩ = some (.string (⟨#[]⟩ : ByteArray)) := (blk_cell BK.out 0).trans rfl; have hc1 : w4.cell? ⟨g, 1, none⟩ = some (.int .i64 0) := (blk_cell BK.out 1).trans rfl; have hc2 : w4.cell? ⟨g, 2, none⟩ = some (.int .i64 0) := (blk_cell BK.out 2).trans rfl; have hc3 : w4.cell? ⟨g, 3, none⟩ = some (.string (⟨#[]⟩ : ByteArray)) := (blk_cell BK.out 3).trans rfl; have hc4 : w4.cell? ⟨g, 4, none⟩ = some (.string (⟨#[]⟩ : ByteArray)) := (blk_cell BK.out 4).trans rfl; have hf0 := blk_frozen BK.out 0; have hf1 := blk_frozen BK.out 1; have hf2 := blk_frozen BK.out 2; have hf3 := blk_frozen BK.out 3; have hf4 := blk_frozen BK.out 4))
    have hb := blk_set (blk_set (blk_set (blk_set (blk_set BK.out 0 (.string t1)) 1 (.int .i64 t2)) 2 (.int .i64 t3)) 3 (.string t4)) 4 (.string t5)
    refine bodyPost_ret (results_ct rfl _ _ g 78 _ (0, 0) _ rfl hb Try.underlying78 rfl (by kernel_rfl)) rfl ?_
    exact ⟨by first | rfl | (simp [*]; done), by repeat (first | (with_reducible first | exact HB.out | apply below_alloc | apply pw_below_drewN | apply below_drew1 | refine below_set ?_ GE.out) | exact HB.out)⟩
def rotaref06_Has.f (a0 : Int) : Option (Bool × Bool × Bool × Int × Int) := if a0 = 1 then (some (true, false, false, 0, 0)) else (if a0 = 2 then (some (true, true, false, 0, 0)) else (if a0 = 3 then (some (true, true, true, 0, 0)) else (if a0 = 4 then (some (false, false, false, 0, 65535)) else (if a0 = 5 then (some (true, false, false, 0, 65535)) else (if a0 = 6 then (some (true, false, false, (-32768), 32767)) else (some (false, false, false, 0, 0)))))))
set_option maxHeartbeats 40000000 in
theorem rotaref06_Has.calls (a0 : Int) (r1 : Bool) (r2 : Bool) (r3 : Bool) (r4 : Int) (r5 : Int) (w : World) (h : rotaref06_Has.f a0 = some (r1, r2, r3, r4, r5)) :
    Calls Try.prog 52 #[.int .i64 a0] w fun e w' => e = .returned (.tuple #[.bool r1, .bool r2, .bool r3, .int .i64 r4, .int .i64 r5]) ∧ Drawn0 w w' := by
  by_cases hc : 1 ≤ a0 ∧ a0 ≤ 6
  · have hcs : a0 = 1 ∨ a0 = 2 ∨ a0 = 3 ∨ a0 = 4 ∨ a0 = 5 ∨ a0 = 6 := by omega
    clear hc
    rcases hcs with rfl | rfl | rfl | rfl | rfl | rfl
    all_goals
      simp only [rotaref06_Has.f, Int.reduceEq, if_true, if_false, Option.some.injEq, Prod.mk.injEq] at h
      obtain ⟨rfl, rfl, rfl, rfl, rfl⟩ := h
      go_enter Try.func52, Try.ntmps52
      go_wp2
      refine bodyPost_ret (results_list (rs := [.tmp 2, .tmp 3, .tmp 4, .tmp 5, .tmp 6]) rfl (by simp) (.tmp (.tmp (.tmp (.tmp (.tmp .nil)))))) rfl ?_
      exact ⟨by first | rfl | (simp; done) | (simp [*]; done), by repeat (first | exact Drawn0.refl _ | apply Drawn0.step)⟩
  · simp only [rotaref06_Has.f, if_neg (show ¬ a0 = 1 by omega), if_neg (show ¬ a0 = 2 by omega), if_neg (show ¬ a0 = 3 by omega), if_neg (show ¬ a0 = 4 by omega), if_neg (show ¬ a0 = 5 by omega), if_neg (show ¬ a0 = 6 by omega), Option.some.injEq, Prod.mk.injEq] at h
    obtain ⟨rfl, rfl, rfl, rfl, rfl⟩ := h
    have b1 : (a0 == 1) = false := beq_eq_false_iff_ne.mpr (by omega)
    have b2 : (a0 == 2) = false := beq_eq_false_iff_ne.mpr (by omega)
    have b3 : (a0 == 3) = false := beq_eq_false_iff_ne.mpr (by omega)
    have b4 : (a0 == 4) = false := beq_eq_false_iff_ne.mpr (by omega)
    have b5 : (a0 == 5) = false := beq_eq_false_iff_ne.mpr (by omega)
    have b6 : (a0 == 6) = false := beq_eq_false_iff_ne.mpr (by omega)
    clear hc
    go_enter Try.func52, Try.ntmps52
    go_wp2
    refine bodyPost_ret (results_list (rs := [.tmp 2, .tmp 3, .tmp 4, .tmp 5, .tmp 6]) rfl (by simp) (.tmp (.tmp (.tmp (.tmp (.tmp .nil)))))) rfl ?_
    exact ⟨by first | rfl | (simp; done) | (simp [*]; done), by repeat (first | exact Drawn0.refl _ | apply Drawn0.step)⟩
end Go.Proofs.Ytdlikjfffdpmiaa.QProper

/- word.find: an operation's row. Conditions: none. -/
import Derived.Test.YtdlikjfffdpmiaaProperTb0
set_option linter.unusedVariables false
set_option linter.unusedSimpArgs false
namespace Go.Proofs.Ytdlikjfffdpmiaa.QProper
open Go.RowKit Go.Proofs.YtdlikjfffdpmiaaW.PrintWords Go.Proofs.YtdlikjfffdpmiaaW.PrintLast Go.Proofs.YtdlikjfffdpmiaaW.PrintMore

theorem rows_at : ∀ (l : List OpRow) (j : Nat) (h : j < l.length), ((l.flatMap rowCells).drop (5 * j)).take 5 = rowCells l[j] := by
  intro l
  induction l with
  | nil => intro j h; cases h
  | cons r l ih =>
    intro j h
    cases j with
    | zero => simp [rowCells]
    | succ j =>
      have := ih j (by simpa using h)
      simp only [List.flatMap_cons, List.getElem_cons_succ]
      rw [show 5 * (j + 1) = (rowCells r).length + 5 * j by simp [rowCells]; omega, List.drop_length_add_append]
      exact this
theorem row_und : Try.prog.underlying 97 = some (match Try.prog.underlying 97 with | some d => d | none => .bool) := by kernel_rfl
theorem row_struct : (match Try.prog.underlying 97 with | some (.struct _) => true | _ => false) = true := by kernel_rfl
theorem row_struct2 : (match (match Try.prog.underlying 97 with | some d => d | none => .bool) with | .struct _ | .array _ _ => true | _ => false) = true := by kernel_rfl
theorem row_size : (Try.prog.info? 97).map (·.size) = some 5 := by kernel_rfl
theorem op_len : opRows.length = 58 := by kernel_rfl
theorem run_index_rows (w : World) (i : Int) (h0 : 0 ≤ i) (h1 : i < 58) (hl : i.toNat < opRows.length) :
    (Instr.index 113 (.agg tableCells.toArray) (.int .i64 i)).run Try.prog w = .ok (.agg (rowCells opRows[i.toNat]).toArray) w := by
  have hs := row_struct
  cases hu : Try.prog.underlying 97 with
  | none => rw [hu] at hs; cases hs
  | some d =>
    cases hi : Try.prog.info? 97 with
    | none => have := row_size; rw [hi] at this; cases this
    | some ie =>
      have h5 : ie.size = 5 := by have := row_size; rw [hi] at this; simpa using this
      rw [hu] at hs
      cases d <;> simp at hs
      have hr2 : List.take 5 (List.drop (i.toNat * 5) tableCells) = rowCells opRows[i.toNat] := by rw [Nat.mul_comm]; exact rows_at opRows i.toNat hl
      simp [Instr.index, run_underlying table_und, asIntOf, h0, h1, part, isAgg, run_underlying hu, sizeOf, typeInfo, hi, h5, hr2]

def word_find.f (a0 : Int) : Option (ByteArray × Int × Int × ByteArray × ByteArray × Int) :=
  if a0 ≤ 0 ∨ 59 ≤ a0 then some (⟨#[]⟩, 0, 0, ⟨#[]⟩, ⟨#[]⟩, 60) else
    (opRows[(a0 - 1).toNat]?).map fun r => (r.1, r.2.1, r.2.2.1, r.2.2.2.1, r.2.2.2.2, 0)
set_option pp.maxSteps 4000
set_option pp.deepTerms false
theorem index_event {ops : Array Oper} {rest : List Oper} {o : Oper} {a : Act} {Q : Exit → Act → World → Prop} {W : World} {x y : Operand} {i : Int} (hgd : o.guard = none) (ho : o.op = .index 113 x y)
    (hx : a.eval x = .agg tableCells.toArray) (hy : a.eval y = .int .i64 i) (h0 : 0 ≤ i) (h1 : i < 58) (hl : i.toNat < opRows.length) {r : OpRow} (hr : opRows[i.toNat] = r)
    (h : wpList Try.prog ops Q rest (a.put o.dst (.agg #[.string r.1, .int .i64 r.2.1, .int .i64 r.2.2.1, .string r.2.2.2.1, .string r.2.2.2.2])) W) : wpList Try.prog ops Q (o :: rest) a W := by
  subst hr
  refine Kd.event_run hgd ?_ h
  unfold execOp
  simp only [ho, hx, hy, Sem.run_bind, run_index_rows W i h0 h1 hl, Result.andThen_ok]
  rfl
set_option maxHeartbeats 4000000 in
set_option maxRecDepth 100000 in
theorem word_find.calls (a0 : Int) (r1 : ByteArray) (r2 r3 : Int) (r4 r5 : ByteArray) (r6 : Int) (w : World) (hf : word_find.f a0 = some (r1, r2, r3, r4, r5, r6)) :
    Calls Try.prog 71 #[.int .i64 a0] w fun e w' => e = .returned (.tuple #[.agg #[.string r1, .int .i64 r2, .int .i64 r3, .string r4, .string r5], .int .i64 r6]) ∧ Below w.heap.size w w' := by
  unfold word_find.f at hf
  by_cases hc : a0 ≤ 0 ∨ 59 ≤ a0
  · rw [if_pos hc] at hf
    simp only [Option.some.injEq, Prod.mk.injEq] at hf
    obtain ⟨rfl, rfl, rfl, rfl, rfl, rfl⟩ := hf
    go_enter Try.func71, Try.ntmps71
    rcases Decidable.em (a0 ≤ 0) with h0 | h0
    · go_wp2
      refine bodyPost_ret (results_ct rfl _ _ w.heap.size 97 (rowCells zeroRow).toArray (0, 0) _ rfl (blk_new _ _) row_und ?_ row_size) rfl ⟨rfl, below_alloc (Below.refl _ _) _⟩
      exact row_struct2
    · have h1 : 59 ≤ a0 := by omega
      go_wp2
      refine bodyPost_ret (results_ct rfl _ _ w.heap.size 97 (rowCells zeroRow).toArray (0, 0) _ rfl (blk_new _ _) row_und ?_ row_size) rfl ⟨rfl, below_alloc (Below.refl _ _) _⟩
      exact row_struct2
  · rw [if_neg hc] at hf
    have hl : (a0 - 1).toNat < opRows.length := by rw [op_len]; omega
    rw [List.getElem?_eq_getElem hl] at hf
    simp only [Option.map_some, Option.some.injEq, Prod.mk.injEq] at hf
    obtain ⟨rfl, rfl, rfl, rfl, rfl, rfl⟩ := hf
    have h0 : ¬ a0 ≤ 0 := by omega
    have h1 : ¬ 59 ≤ a0 := by omega
    generalize hr : opRows[(a0 - 1).toNat] = r
    obtain ⟨r1, r2, r3, r4, r5⟩ := r
    go_enter Try.func71, Try.ntmps71
    go_wp2_with (first
      | (refine (table_calls _).mono ?_; rintro e w2 ⟨rfl, hb1⟩; have hbox2 := blk_below (blk_new w (.cells #[.string (⟨#[]⟩ : ByteArray), .int .i64 0, .int .i64 0, .string (⟨#[]⟩ : ByteArray), .string (⟨#[]⟩ : ByteArray)] 97 (0, 0))) hb1; have hc0 : w2.cell? ⟨w.heap.size, 0, none⟩ = some (.string ⟨#[]⟩) := (blk_cell hbox2 0).trans rfl; have hc1 : w2.cell? ⟨w.heap.size, 1, none⟩ = some (.int .i64 0) := (blk_cell hbox2 1).trans rfl; have hc2 : w2.cell? ⟨w.heap.size, 2, none⟩ = some (.int .i64 0) := (blk_cell hbox2 2).trans rfl; have hc3 : w2.cell? ⟨w.heap.size, 3, none⟩ = some (.string ⟨#[]⟩) := (blk_cell hbox2 3).trans rfl; have hc4 : w2.cell? ⟨w.heap.size, 4, none⟩ = some (.string ⟨#[]⟩) := (blk_cell hbox2 4).trans rfl; have hf0 := blk_frozen hbox2 0; have hf1 := blk_frozen hbox2 1; have hf2 := blk_frozen hbox2 2; have hf3 := blk_frozen hbox2 3; have hf4 := blk_frozen hbox2 4)
      | ((with_reducible refine gate_dst (N := 14) rfl ?_); refine index_event rfl rfl rfl (i := a0 - 1) rfl (by omega) (by omega) hl hr ?_))
    refine bodyPost_ret (results_ct rfl _ _ w.heap.size 97 #[.string r1, .int .i64 r2, .int .i64 r3, .string r4, .string r5] (0, 0) _ rfl ?_ row_und row_struct2 row_size) rfl ⟨rfl, ?_⟩
    · refine blk_put (cs := #[.string r1, .int .i64 r2, .int .i64 r3, .string r4, .string (⟨#[]⟩ : ByteArray)]) ?_ 4 _ rfl
      refine blk_put (cs := #[.string r1, .int .i64 r2, .int .i64 r3, .string (⟨#[]⟩ : ByteArray), .string (⟨#[]⟩ : ByteArray)]) ?_ 3 _ rfl
      refine blk_put (cs := #[.string r1, .int .i64 r2, .int .i64 0, .string (⟨#[]⟩ : ByteArray), .string (⟨#[]⟩ : ByteArray)]) ?_ 2 _ rfl
      refine blk_put (cs := #[.string r1, .int .i64 0, .int .i64 0, .string (⟨#[]⟩ : ByteArray), .string (⟨#[]⟩ : ByteArray)]) ?_ 1 _ rfl
      refine blk_put (cs := #[.string (⟨#[]⟩ : ByteArray), .int .i64 0, .int .i64 0, .string (⟨#[]⟩ : ByteArray), .string (⟨#[]⟩ : ByteArray)]) ?_ 0 _ rfl
      exact hbox2
    · exact below_set (below_set (below_set (below_set (below_set (below_step (below_alloc (Below.refl _ _) _) hb1) (Nat.le_refl _)) (Nat.le_refl _)) (Nat.le_refl _)) (Nat.le_refl _)) (Nat.le_refl _)
end Go.Proofs.Ytdlikjfffdpmiaa.QProper

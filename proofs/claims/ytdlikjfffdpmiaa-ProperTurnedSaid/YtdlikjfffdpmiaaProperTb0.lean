import Derived.Test.YtdlikjfffdpmiaaQProperx0
import Derived.BigFrame
import Derived.BigCall
import Derived.Laws.Tables
import Derived.Laws.CopyOwn
import Derived.Laws.Rows
set_option linter.unusedVariables false
set_option linter.unusedSimpArgs false
namespace Go.Proofs.Ytdlikjfffdpmiaa.QProper
open Go.RowKit Go.Proofs.YtdlikjfffdpmiaaW.PrintWords Go.Proofs.YtdlikjfffdpmiaaW.PrintLast Go.Proofs.YtdlikjfffdpmiaaW.PrintMore

/-- The rows of the table: name, shape, ticks, what is read, what is written. -/
def opRows : List (ByteArray × Int × Int × ByteArray × ByteArray) := [
  (⟨#[110, 111, 112]⟩, 0, 1, ⟨#[]⟩, ⟨#[]⟩),
  (⟨#[115, 101, 116]⟩, 6, 1, ⟨#[]⟩, ⟨#[97]⟩),
  (⟨#[104, 105, 103, 104]⟩, 5, 1, ⟨#[97]⟩, ⟨#[97]⟩),
  (⟨#[109, 111, 118, 101]⟩, 2, 1, ⟨#[98]⟩, ⟨#[97]⟩),
  (⟨#[97, 100, 100]⟩, 3, 1, ⟨#[98, 99]⟩, ⟨#[97]⟩),
  (⟨#[115, 117, 98]⟩, 3, 1, ⟨#[98, 99]⟩, ⟨#[97]⟩),
  (⟨#[109, 117, 108]⟩, 3, 3, ⟨#[98, 99]⟩, ⟨#[97]⟩),
  (⟨#[100, 105, 118]⟩, 3, 8, ⟨#[98, 99]⟩, ⟨#[97]⟩),
  (⟨#[114, 101, 109]⟩, 3, 8, ⟨#[98, 99]⟩, ⟨#[97]⟩),
  (⟨#[97, 110, 100]⟩, 3, 1, ⟨#[98, 99]⟩, ⟨#[97]⟩),
  (⟨#[111, 114]⟩, 3, 1, ⟨#[98, 99]⟩, ⟨#[97]⟩),
  (⟨#[120, 111, 114]⟩, 3, 1, ⟨#[98, 99]⟩, ⟨#[97]⟩),
  (⟨#[115, 104, 108]⟩, 3, 1, ⟨#[98, 99]⟩, ⟨#[97]⟩),
  (⟨#[115, 104, 114]⟩, 3, 1, ⟨#[98, 99]⟩, ⟨#[97]⟩),
  (⟨#[108, 101, 115, 115]⟩, 3, 1, ⟨#[98, 99]⟩, ⟨#[97]⟩),
  (⟨#[101, 113, 117, 97, 108]⟩, 3, 1, ⟨#[98, 99]⟩, ⟨#[97]⟩),
  (⟨#[106, 117, 109, 112]⟩, 4, 1, ⟨#[]⟩, ⟨#[]⟩),
  (⟨#[122, 101, 114, 111]⟩, 5, 1, ⟨#[97]⟩, ⟨#[]⟩),
  (⟨#[115, 111, 109, 101]⟩, 5, 1, ⟨#[97]⟩, ⟨#[]⟩),
  (⟨#[99, 97, 108, 108]⟩, 4, 2, ⟨#[]⟩, ⟨#[]⟩),
  (⟨#[114, 101, 116]⟩, 0, 2, ⟨#[]⟩, ⟨#[]⟩),
  (⟨#[115, 112, 97, 119, 110]⟩, 5, 4, ⟨#[97, 108, 108]⟩, ⟨#[97]⟩),
  (⟨#[121, 105, 101, 108, 100]⟩, 0, 1, ⟨#[]⟩, ⟨#[]⟩),
  (⟨#[101, 120, 105, 116]⟩, 0, 1, ⟨#[]⟩, ⟨#[]⟩),
  (⟨#[115, 101, 108, 102]⟩, 1, 1, ⟨#[]⟩, ⟨#[97]⟩),
  (⟨#[110, 111, 119]⟩, 1, 1, ⟨#[]⟩, ⟨#[97]⟩),
  (⟨#[115, 108, 101, 101, 112]⟩, 1, 1, ⟨#[97]⟩, ⟨#[]⟩),
  (⟨#[109, 97, 107, 101]⟩, 2, 4, ⟨#[98]⟩, ⟨#[97]⟩),
  (⟨#[115, 101, 110, 100]⟩, 2, 2, ⟨#[97, 98]⟩, ⟨#[]⟩),
  (⟨#[114, 101, 99, 118]⟩, 3, 2, ⟨#[99]⟩, ⟨#[97, 98]⟩),
  (⟨#[99, 108, 111, 115, 101]⟩, 1, 2, ⟨#[97]⟩, ⟨#[]⟩),
  (⟨#[108, 101, 110]⟩, 2, 1, ⟨#[98]⟩, ⟨#[97]⟩),
  (⟨#[99, 97, 112]⟩, 2, 1, ⟨#[98]⟩, ⟨#[97]⟩),
  (⟨#[115, 101, 108, 101, 99, 116]⟩, 5, 4, ⟨#[97, 108, 108]⟩, ⟨#[97, 108, 108]⟩),
  (⟨#[108, 111, 99, 107]⟩, 1, 2, ⟨#[97]⟩, ⟨#[]⟩),
  (⟨#[117, 110, 108, 111, 99, 107]⟩, 1, 2, ⟨#[97]⟩, ⟨#[]⟩),
  (⟨#[114, 108, 111, 99, 107]⟩, 1, 2, ⟨#[97]⟩, ⟨#[]⟩),
  (⟨#[114, 117, 110, 108, 111, 99, 107]⟩, 1, 2, ⟨#[97]⟩, ⟨#[]⟩),
  (⟨#[119, 97, 100, 100]⟩, 2, 2, ⟨#[97, 98]⟩, ⟨#[]⟩),
  (⟨#[119, 100, 111, 110, 101]⟩, 1, 2, ⟨#[97]⟩, ⟨#[]⟩),
  (⟨#[119, 119, 97, 105, 116]⟩, 1, 2, ⟨#[97]⟩, ⟨#[]⟩),
  (⟨#[99, 119, 97, 105, 116]⟩, 2, 3, ⟨#[97, 98]⟩, ⟨#[]⟩),
  (⟨#[115, 105, 103, 110, 97, 108]⟩, 1, 2, ⟨#[97]⟩, ⟨#[]⟩),
  (⟨#[98, 114, 111, 97, 100, 99, 97, 115, 116]⟩, 1, 3, ⟨#[97]⟩, ⟨#[]⟩),
  (⟨#[97, 99, 113, 117, 105, 114, 101]⟩, 1, 2, ⟨#[97]⟩, ⟨#[]⟩),
  (⟨#[114, 101, 108, 101, 97, 115, 101]⟩, 1, 2, ⟨#[97]⟩, ⟨#[]⟩),
  (⟨#[108, 111, 97, 100]⟩, 2, 2, ⟨#[98]⟩, ⟨#[97]⟩),
  (⟨#[115, 116, 111, 114, 101]⟩, 2, 2, ⟨#[97, 98]⟩, ⟨#[]⟩),
  (⟨#[115, 119, 97, 112]⟩, 3, 3, ⟨#[97, 98, 99]⟩, ⟨#[97]⟩),
  (⟨#[102, 101, 116, 99, 104]⟩, 3, 3, ⟨#[98, 99]⟩, ⟨#[97]⟩),
  (⟨#[105, 110, 112, 117, 116]⟩, 2, 2, ⟨#[]⟩, ⟨#[97, 98]⟩),
  (⟨#[111, 117, 116, 112, 117, 116]⟩, 1, 2, ⟨#[97]⟩, ⟨#[]⟩),
  (⟨#[112, 117, 116]⟩, 3, 2, ⟨#[97, 98]⟩, ⟨#[99]⟩),
  (⟨#[103, 101, 116]⟩, 3, 2, ⟨#[99]⟩, ⟨#[97, 98]⟩),
  (⟨#[97, 102, 116, 101, 114]⟩, 3, 3, ⟨#[98, 99]⟩, ⟨#[97]⟩),
  (⟨#[101, 118, 101, 114, 121]⟩, 3, 3, ⟨#[98, 99]⟩, ⟨#[97]⟩),
  (⟨#[115, 116, 111, 112]⟩, 2, 2, ⟨#[98]⟩, ⟨#[97]⟩),
  (⟨#[116, 114, 97, 112]⟩, 4, 1, ⟨#[]⟩, ⟨#[]⟩)]
abbrev OpRow := ByteArray × Int × Int × ByteArray × ByteArray
def rowCells (r : OpRow) : List Value := [.string r.1, .int .i64 r.2.1, .int .i64 r.2.2.1, .string r.2.2.2.1, .string r.2.2.2.2]
def tableCells : List Value := opRows.flatMap rowCells
def zeroRow : OpRow := (⟨#[]⟩, 0, 0, ⟨#[]⟩, ⟨#[]⟩)
def zeroCells : List Value := (List.replicate 58 zeroRow).flatMap rowCells
/-- A row of builds, run. -/
def runB (P : Program) : List Oper → Act → Option Act
  | [], a => some a
  | o :: r, a =>
    match o.guard, o.op with
    | none, .build t parts =>
      match P.built t (parts.map fun (i, x) => (i, a.eval x)).toList with
      | some cells => runB P r (a.put o.dst (.agg cells))
      | none => none
    | _, _ => none
theorem wpList_builds {P : Program} {ops : Array Oper} {rest : List Oper} {Q : Exit → Act → World → Prop} {w : World} :
    ∀ (bs : List Oper) (a a' : Act), runB P bs a = some a' → wpList P ops Q rest a' w → wpList P ops Q (bs ++ rest) a w := by
  intro bs
  induction bs with
  | nil => intro a a' h hk; simp only [runB, Option.some.injEq] at h; subst h; exact hk
  | cons o r ih =>
    intro a a' h hk
    rw [runB] at h
    split at h
    · rename_i t parts hg ho
      split at h
      · rename_i cells hc
        have := ih _ _ h hk
        refine wpList_build hg t parts ho (by rw [hc]; rfl) ?_
        rw [hc]; exact this
      · cases h
    · cases h
/-- The second region's operations. -/
def ops2 : Code → List Oper
  | .seq _ (.seq (.region _ ops _) _) => ops.toList
  | _ => []
noncomputable def tableOps : List Oper := ops2 (Try.f84.body.getD .ret)
noncomputable def tableBs : List Oper := tableOps.take 59
def frame0 (g : Nat) : Act := ⟨(Array.replicate 60 undef).setIfInBounds 0 (.pointer (some ⟨g, 0, none⟩)), []⟩
noncomputable def frame1 (g : Nat) : Act := (runB Try.prog tableBs (frame0 g)).getD (frame0 g)
set_option maxRecDepth 1000000 in
theorem frame1_some (g : Nat) : (runB Try.prog tableBs (frame0 g)).isSome = true := by kernel_rfl
theorem frame1_is (g : Nat) : runB Try.prog tableBs (frame0 g) = some (frame1 g) := by
  unfold frame1
  have := frame1_some g
  cases h : runB Try.prog tableBs (frame0 g) with
  | none => rw [h] at this; cases this
  | some x => rfl
set_option maxRecDepth 1000000 in
theorem frame1_ptr (g : Nat) : (frame1 g).eval (.tmp 0) = .pointer (some ⟨g, 0, none⟩) := by kernel_rfl
set_option maxRecDepth 1000000 in
theorem frame1_tab (g : Nat) : (frame1 g).eval (.tmp 59) = .agg tableCells.toArray := by kernel_rfl
set_option maxRecDepth 1000000 in
theorem frame1_defers (g : Nat) : (frame1 g).defers = [] := by kernel_rfl
set_option maxRecDepth 1000000 in
theorem table_ones : tableCells.toArray.all (·.oneCell') = true := by kernel_rfl
set_option maxRecDepth 1000000 in
theorem table_len : tableCells.toArray.size = 290 := by kernel_rfl
set_option maxRecDepth 1000000 in
theorem zero_len : zeroCells.toArray.size = 290 := by kernel_rfl
theorem table_und : Try.prog.underlying 113 = some (.array 58 97) := by kernel_rfl
theorem table_size : (Try.prog.info? 113).map (·.size) = some 290 := by kernel_rfl
set_option maxRecDepth 1000000 in
theorem table_zero : (Try.prog.info? 113).map (·.zero) = some (some (.agg zeroCells.toArray)) := by kernel_rfl

theorem run_alloc_agg {P : Program} (w : World) (t : TypeId) (cs : Array Value) (h : (P.info? t).map (·.zero) = some (some (.agg cs))) (o : Oper) (ho : o.op = .alloc t) (ρ : Operand → Value) :
    (execOp ρ o).run P w = .ok (.value (.pointer (some ⟨w.heap.size, 0, none⟩))) (w.alloc (.cells cs t (0, 0))) := by
  cases hi : P.info? t with
  | none => rw [hi] at h; cases h
  | some i =>
    rw [hi] at h
    have hz : i.zero = some (.agg cs) := by simpa using h
    unfold execOp
    simp [ho, hi, hz, typeInfo, zeroValue, Value.cells, go_sem]
set_option maxHeartbeats 4000000 in
set_option maxRecDepth 1000000 in
theorem table_calls (w : World) : Calls Try.prog 84 #[] w fun e w' => e = .returned (.agg tableCells.toArray) ∧ Below w.heap.size w w' := by
  go_enter Try.func84, Try.ntmps84
  refine wp_seq (wp_region_list ?_)
  refine Kd.event_run rfl (v := .pointer (some ⟨w.heap.size, 0, none⟩)) (w1 := w.alloc (.cells zeroCells.toArray 113 (0, 0))) ?_ ?_
  · exact run_alloc_agg w 113 _ table_zero _ rfl _
  refine wpList_nil ?_
  refine wp_seq (wp_region_list ?_)
  refine wpList_builds (rest := tableOps.drop 59) tableBs _ (frame1 w.heap.size) ?_ ?_
  · exact frame1_is _
  have hg : (w.alloc (.cells zeroCells.toArray 113 (0, 0))).heap[w.heap.size]? = some (.cells zeroCells.toArray 113 (0, 0)) := heap_alloc_new _ _
  refine wpList_store_row rfl 113 (.tmp 0) (.tmp 59) rfl w.heap.size tableCells.toArray (frame1_ptr _) (frame1_tab _) 113 zeroCells.toArray hg (by rw [table_size, table_len]) (by rw [table_len, zero_len]) table_ones ?_
  refine wpList_nil ?_
  refine wp_ret ?_
  refine bodyPost_ret (results_cell_row rfl _ _ w.heap.size 113 tableCells.toArray (0, 0) (.array 58 97) ?_ ?_ table_und rfl (by rw [table_size, table_len])) ?_ ⟨rfl, ?_⟩
  · exact frame1_ptr _
  · exact setRow_heap _ _ _ _ _ _ hg
  · exact frame1_defers _
  · exact below_setRow (below_alloc (Below.refl _ _) _) (Nat.le_refl _) _
end Go.Proofs.Ytdlikjfffdpmiaa.QProper

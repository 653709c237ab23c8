/- New. Conditions: each theorem's own. -/
import Derived.Test.YtielcanihooagaaDoorSlo
set_option linter.unusedVariables false
set_option linter.unusedSimpArgs false
namespace Go.Proofs.YtielcanihooagaaDoor.PSemaExcludes
open Go.RowKit Go.Proofs.YtielcanihooagaaDoor.Ef Go.Proofs.YtielcanihooagaaDoor.Mp Go.Proofs.YtielcanihooagaaDoorW.PrintWords Go.Proofs.YtielcanihooagaaDoorW.PrintLast Go.Proofs.YtielcanihooagaaDoorW.PrintMore

section
variable (w : World) (o0 o1 o2 o3 o4 : Obj)
theorem five0 : (((((w.alloc o0).alloc o1).alloc o2).alloc o3).alloc o4).drew.heap[w.heap.size]? = some o0 := blk_below (blk_below (blk_below (blk_below (blk_below (blk_new w o0) (below_alloc (Below.refl _ _) o1)) (below_alloc (Below.refl _ _) o2)) (below_alloc (Below.refl _ _) o3)) (below_alloc (Below.refl _ _) o4)) (below_drew (Below.refl _ _))
theorem asz (W : World) (o : Obj) : (W.alloc o).heap.size = W.heap.size + 1 := Array.size_push _
theorem five1 : (((((w.alloc o0).alloc o1).alloc o2).alloc o3).alloc o4).drew.heap[w.heap.size + 1]? = some o1 := by
  have h := blk_new (w.alloc o0) o1
  rw [asz] at h
  exact blk_below (blk_below (blk_below (blk_below h (below_alloc (Below.refl _ _) o2)) (below_alloc (Below.refl _ _) o3)) (below_alloc (Below.refl _ _) o4)) (below_drew (Below.refl _ _))
theorem five2 : (((((w.alloc o0).alloc o1).alloc o2).alloc o3).alloc o4).drew.heap[w.heap.size + 1 + 1]? = some o2 := by
  have h := blk_new ((w.alloc o0).alloc o1) o2
  rw [asz, asz] at h
  exact blk_below (blk_below (blk_below h (below_alloc (Below.refl _ _) o3)) (below_alloc (Below.refl _ _) o4)) (below_drew (Below.refl _ _))
theorem five3 : (((((w.alloc o0).alloc o1).alloc o2).alloc o3).alloc o4).drew.heap[w.heap.size + 1 + 1 + 1]? = some o3 := by
  have h := blk_new (((w.alloc o0).alloc o1).alloc o2) o3
  rw [asz, asz, asz] at h
  exact blk_below (blk_below h (below_alloc (Below.refl _ _) o4)) (below_drew (Below.refl _ _))
theorem five4 : (((((w.alloc o0).alloc o1).alloc o2).alloc o3).alloc o4).drew.heap[w.heap.size + 1 + 1 + 1 + 1]? = some o4 := by
  have h := blk_new ((((w.alloc o0).alloc o1).alloc o2).alloc o3) o4
  rw [asz, asz, asz, asz] at h
  exact blk_below h (below_drew (Below.refl _ _))
theorem fiveB : Below w.heap.size w (((((w.alloc o0).alloc o1).alloc o2).alloc o3).alloc o4).drew := below_drew (below_alloc (below_alloc (below_alloc (below_alloc (below_alloc (Below.refl _ _) _) _) _) _) _)
end
theorem made_at (z : Array Value) (n j : Nat) (h : j < n) : (madeCells z n)[j]? = some (z[j % z.size]!) := by
  unfold madeCells
  rw [Array.getElem?_map, Array.getElem?_range]
  simp [h]
def zL : Array Value := #[.slice none 0 0, .bool false, .int .i64 0]
def zG : Array Value := #[.slice none 0 0, .int .i64 0]
def zC : Array Value := #[.slice none 0 0]
theorem made_lk (n : Nat) (hn : n < 256) : LK (madeCells zL 768) n nilV false 0 := by
  have e : ∀ i, i < 256 → (madeCells zL 768)[3 * i]? = some nilV ∧ (madeCells zL 768)[3 * i + 1]? = some (.bool false) ∧ (madeCells zL 768)[3 * i + 2]? = some (.int .i64 0) := by
    intro i hi
    rw [made_at _ _ _ (by omega), made_at _ _ _ (by omega), made_at _ _ _ (by omega)]
    rw [show 3 * i % zL.size = 0 from by show 3 * i % 3 = 0; omega, show (3 * i + 1) % zL.size = 1 from by show (3 * i + 1) % 3 = 1; omega, show (3 * i + 2) % zL.size = 2 from by show (3 * i + 2) % 3 = 2; omega]
    exact ⟨rfl, rfl, rfl⟩
  exact ⟨size_madeCells _ _, (e n hn).1, (e n hn).2.1, (e n hn).2.2, fun i hi _ => e i hi⟩
theorem made_ct (n : Nat) (hn : n < 256) : CT (madeCells zG 512) n nilV 0 := by
  have e : ∀ i, i < 256 → (madeCells zG 512)[2 * i]? = some nilV ∧ (madeCells zG 512)[2 * i + 1]? = some (.int .i64 0) := by
    intro i hi
    rw [made_at _ _ _ (by omega), made_at _ _ _ (by omega)]
    rw [show 2 * i % zG.size = 0 from by show 2 * i % 2 = 0; omega, show (2 * i + 1) % zG.size = 1 from by show (2 * i + 1) % 2 = 1; omega]
    exact ⟨rfl, rfl⟩
  exact ⟨size_madeCells _ _, (e n hn).1, (e n hn).2, fun i hi _ => e i hi⟩
theorem made_cd : CD (madeCells zC 256) := by
  refine ⟨size_madeCells _ _, fun i hi => ?_⟩
  rw [made_at _ _ _ hi, show i % zC.size = 0 from by show i % 1 = 0; omega]
  rfl
theorem make_any (t e : TypeId) (z : Array Value) (sz by_ : Nat) (ht : Tryd.prog.underlying t = some (.slice e)) (hi : (Tryd.prog.info? e).map (fun i => (i.zero, i.size, i.bytes)) = some (some (.agg z), sz, by_)) (hb : by_ ≤ 1000000) (W : World) :
    (Instr.makeSlice t (.int .i64 256) (.int .i64 256)).run Tryd.prog W = .ok (.slice (some ⟨W.heap.size, 0, none⟩) 256 256) (W.alloc (.cells (madeCells z (256 * sz)) e)) := by
  obtain ⟨i, h1, h2⟩ := Option.map_eq_some_iff.1 hi
  obtain ⟨q1, q2⟩ := Prod.mk.inj h2
  obtain ⟨q2, q3⟩ := Prod.mk.inj q2
  have h := run_make (P := Tryd.prog) W t e i (.agg z) ht h1 q1 .i64 .i64 256 256 (by decide) (by decide) (by rw [q3]; omega) (by decide)
  rw [q2] at h
  exact h
theorem new_fin {w W : World} {B : Bk} {s nl ns : Nat} (hnl : nl < 256) (hns : ns < 256) (hblk : W.heap[s]? = some (.cells (sV B) 63 (0, 0))) (hl : W.heap[B.l]? = some (.cells (madeCells zL 768) 79 (0, 0))) (hg : W.heap[B.g]? = some (.cells (madeCells zG 512) 69 (0, 0))) (hc : W.heap[B.c]? = some (.cells (madeCells zC 256) 97 (0, 0))) (hs : W.heap[B.s]? = some (.cells (madeCells zG 512) 69 (0, 0)))
    (hne : B.g ≠ B.s) (h1 : w.heap.size ≤ s) (h2 : w.heap.size ≤ B.l) (h3 : w.heap.size ≤ B.g) (h4 : w.heap.size ≤ B.c) (h5 : w.heap.size ≤ B.s) : SY W w.heap.size s B nl nilV (fun _ => False) [] false 0 ns nilV (fun _ => False) [] 0 :=
  ⟨⟨hblk, ⟨_, hl, made_lk nl hnl⟩, ⟨_, hg, made_ct 0 (by decide)⟩, ⟨_, hc, made_cd⟩, ⟨_, hs, made_ct ns hns⟩, hne, (by rintro k (rfl | rfl | rfl | rfl | rfl) <;> assumption), hnl, hns⟩, Kd.R_nil _ _ _ _ _, Kd.R_nil _ _ _ _ _, fun _ q => q.elim, fun _ q => q.elim, fun _ q => q.elim, fun _ q => q.elim, fun _ q => q.elim, fun _ q => q.elim, fun _ q => q.elim⟩
set_option maxHeartbeats 4000000 in
set_option maxRecDepth 100000 in
theorem new_calls (nl ns : Nat) (hnl : nl < 256) (hns : ns < 256) (w : World) : Calls Tryd.prog 7 #[] w fun e w' => ∃ s B, e = .returned (.pointer (some ⟨s, 0, none⟩)) ∧ SY w' w.heap.size s B nl nilV (fun _ => False) [] false 0 ns nilV (fun _ => False) [] 0 ∧ Below w.heap.size w w' := by
  obtain ⟨cl, hl, el⟩ : ∃ cl, (∀ W : World, (Instr.makeSlice 59 (.int .i64 256) (.int .i64 256)).run Tryd.prog W = .ok (.slice (some ⟨W.heap.size, 0, none⟩) 256 256) (W.alloc (.cells cl 79))) ∧ cl = madeCells zL 768 := ⟨_, make_any 59 79 zL 3 40 Tryd.underlying59 (by kernel_rfl) (by decide), rfl⟩
  obtain ⟨cg, hg, eg⟩ : ∃ cl, (∀ W : World, (Instr.makeSlice 60 (.int .i64 256) (.int .i64 256)).run Tryd.prog W = .ok (.slice (some ⟨W.heap.size, 0, none⟩) 256 256) (W.alloc (.cells cl 69))) ∧ cl = madeCells zG 512 := ⟨_, make_any 60 69 zG 2 32 Tryd.underlying60 (by kernel_rfl) (by decide), rfl⟩
  obtain ⟨cc, hc, ec⟩ : ∃ cl, (∀ W : World, (Instr.makeSlice 61 (.int .i64 256) (.int .i64 256)).run Tryd.prog W = .ok (.slice (some ⟨W.heap.size, 0, none⟩) 256 256) (W.alloc (.cells cl 97))) ∧ cl = madeCells zC 256 := ⟨_, make_any 61 97 zC 1 24 Tryd.underlying61 (by kernel_rfl) (by decide), rfl⟩
  have EL := Aside0.mk el
  have EG := Aside0.mk eg
  have EC := Aside0.mk ec
  have H1 := Aside0.mk hnl
  have H2 := Aside0.mk hns
  clear el eg ec hnl hns
  go_enter Tryd.func7, Tryd.ntmps7
  go_upto_region 1 with (fail)
  go_region
  all_goals
    clear hl hg hc
    go_wp2
    go_ret
    obtain ⟨rfl⟩ := EL
    obtain ⟨rfl⟩ := EG
    obtain ⟨rfl⟩ := EC
    refine ⟨_, ⟨_, _, _, _⟩, rfl, new_fin H1.out H2.out (five4 _ _ _ _ _ _) ?_ ?_ ?_ ?_ ?_ ?_ ?_ ?_ ?_ ?_, fiveB _ _ _ _ _ _⟩
    iterate 4 (first | exact five0 _ _ _ _ _ _ | exact five1 _ _ _ _ _ _ | exact five2 _ _ _ _ _ _ | exact five3 _ _ _ _ _ _)
    all_goals (first | (simp; done) | (simp; omega) | omega)
end Go.Proofs.YtielcanihooagaaDoor.PSemaExcludes

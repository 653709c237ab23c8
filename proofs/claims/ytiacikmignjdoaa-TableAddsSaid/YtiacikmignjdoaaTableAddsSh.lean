/- Share: the sum, over a domain's slots, of each slot's ticks but its pad (as Go's uint64 adds them).
   Conditions: the table reads as a list of lists of slots; 'may' has told whether it may be asked. -/
import Derived.Test.YtiacikmignjdoaaTableAddsK
import Derived.Test.YtiacikmignjdoaaQTableAddsx2
set_option linter.unusedVariables false
set_option linter.unusedSimpArgs false
namespace Go.Proofs.Ytiacikmignjdoaa.QTableAdds
open Go.RowKit Go.Proofs.Ytiacikmignjdoaa.KTableAdds Go.Proofs.YtiacikmignjdoaaW.PrintWords Go.Proofs.YtiacikmignjdoaaW.PrintLast Go.Proofs.YtiacikmignjdoaaW.PrintMore

/-- What is added up. -/
def sumW (l : List S48) : Int := l.foldl (fun a s => IntKind.u64.wrap (a + IntKind.u64.wrap (s.f1.f1 - s.f2))) 0
theorem sumW_snoc (l : List S48) (s : S48) : sumW (l ++ [s]) = IntKind.u64.wrap (sumW l + IntKind.u64.wrap (s.f1.f1 - s.f2)) := by simp [sumW, List.foldl_append]

def table_Share.f (k : Nat) (a0_0 : Int) (l0_1 : List (List (S48))) (a1 : Int) : Option (Int × Int) := (table_may.f k a0_0 l0_1 0 a1).bind fun m => if m = 0 then some (sumW (ofDom a1 l0_1), 0) else some (0, m)
theorem table_Share.mono : ∀ a0 a1 a2 k, LeO (table_Share.f k a0 a1 a2) (table_Share.f (k + 1) a0 a1 a2) := by
  intro a0 a1 a2 k
  unfold table_Share.f
  exact LeO.bind (table_may.mono _ _ _ _ _) (fun _ => LeO.refl _)

set_option maxHeartbeats 400000 in
set_option maxRecDepth 100000 in
theorem share1_any (s : S48) (x : Int) (g : Nat) (wr : World) (hv : wr.heap[g]? = some (.cells #[.int .u64 x] 22 (0, 0))) :
    Calls Try.prog 45 #[.agg #[.int .i64 s.f0, .int .u64 s.f1.f0, .int .u64 s.f1.f1, .int .u64 s.f2], .pointer (some ⟨g, 0, none⟩)] wr fun e w' => e = .returned (.tuple #[]) ∧ Below g wr w' ∧ w'.heap[g]? = some (.cells #[.int .u64 (IntKind.u64.wrap (x + IntKind.u64.wrap (s.f1.f1 - s.f2)))] 22 (0, 0)) := by
  have hu48 := Try.underlying48
  have hu46 := Try.underlying46
  have hlt : g < wr.heap.size := blk_lt hv
  have hc0 : wr.cell? ⟨g, 0, none⟩ = some (.int .u64 x) := blk_cell hv 0
  have hf0 : wr.frozen? ⟨g, 0, none⟩ = false := blk_frozen hv 0
  have hne : ¬ g = wr.heap.size := by omega
  go_enter Try.func45, Try.ntmps45
  go_wp2
  go_end0
  exact ⟨rfl, ((Below.refl g wr).setCell (p := ⟨g, 0, none⟩) (Nat.le_refl _) _).alloc (by rw [World.size_setCell]; omega) _, blk_alloc (blk_set hv 0 _) _⟩

theorem share_each (B : Nat) (w0 : World) (d : Int) (ls : List (List S48)) (g : Nat) (hg : B ≤ g) :
    Each B w0 d ls 45 #[.pointer (some ⟨g, 0, none⟩)] (fun done wr => wr.heap[g]? = some (.cells #[.int .u64 (sumW done)] 22 (0, 0))) where
  alloc := fun done wr o _ h => blk_alloc h o
  step := by
    intro done s wr _ _ hb h
    refine (share1_any s (sumW done) g wr h).mono ?_
    rintro e w' ⟨rfl, hb1, h1⟩
    exact ⟨rfl, hb.trans (hb1.mono hg), by rw [sumW_snoc]; exact h1⟩

set_option maxHeartbeats 1000000 in
set_option maxRecDepth 100000 in
theorem table_Share.calls (k : Nat) (a0_0 : Int) (A0_1 : Option Addr) (c0_1 : Nat) (l0_1 : List (List (S48))) (a1 : Int) (r1 : Int) (r2 : Int) (w : World) (hr0_1 : Kd.C (Kd.slice 48 k48) w A0_1 l0_1.length l0_1) (hc0_1 : l0_1.length ≤ c0_1) (h : table_Share.f k a0_0 l0_1 a1 = some (r1, r2)) :
    Calls Try.prog 25 #[.agg #[.int .u64 a0_0, .slice A0_1 l0_1.length c0_1], .int .i64 a1] w fun e w' => e = .returned (.tuple #[.int .u64 r1, .int .i64 r2]) ∧ Below w.heap.size w w' := by
  have hu25 := Try.underlying25
  obtain ⟨m, hm, hmr⟩ := Option.bind_eq_some_iff.mp h
  have HM := Aside0.mk hm
  have HR := Aside0.mk hr0_1
  have HC := Aside0.mk hc0_1
  clear h hm hr0_1 hc0_1
  have hmf : ∀ (fn : Fn) (first cap : Array Value) (w : World), (Instr.makeFunc fn first cap).run Try.prog w = .ok (.func fn first cap) w := fun _ _ _ _ => rfl
  by_cases c : m = 0
  · rw [if_pos c] at hmr
    have c0 : (m != 0) = false := bne_eq_false_iff_eq.mpr c
    have c1 : (m == 0) = true := beq_iff_eq.mpr c
    clear c
    obtain ⟨rfl, rfl⟩ := Prod.mk.inj (Option.some.inj hmr)
    go_enter Try.func25, Try.ntmps25
    go_wp2_with fail
    refine (table_may.calls k a0_0 _ _ l0_1 0 a1 m _ (Kd.C_alloc HR.out _) HC.out HM.out).mono ?_
    rintro e w1 ⟨rfl, hb⟩
    have hbox := blk_below (blk_new w (.cells #[.int .u64 a0_0, .slice A0_1 l0_1.length c0_1] 25 (0, 0))) hb
    have hz0 : w1.cell? ⟨w.heap.size, 0, none⟩ = some (.int .u64 a0_0) := (blk_cell hbox 0).trans rfl
    have hz1 : w1.cell? ⟨w.heap.size, 1, none⟩ = some (.slice A0_1 l0_1.length c0_1) := (blk_cell hbox 1).trans rfl
    have HB1 := Aside0.mk (below_step (below_alloc (Below.refl w.heap.size w) _) hb)
    have hlt1 : w.heap.size < w1.heap.size := blk_lt hbox
    have hne1 : ¬ w.heap.size = w1.heap.size := by omega
    clear hbox hb
    go_wp2_with fail
    refine (slots_any 45 (fun args w => enters_ Try.func45 (by kernel_rfl) rfl args w) a0_0 A0_1 c0_1 l0_1 a1 #[.pointer (some ⟨w1.heap.size, 0, none⟩)] w _ (below_alloc HB1.out _) HR.out HC.out _ (show (w1.alloc (.cells #[.int .u64 0] 22 (0, 0))).heap[w1.heap.size]? = some (.cells #[.int .u64 (sumW [])] 22 (0, 0)) from blk_new w1 _) (share_each _ _ _ _ w1.heap.size HB1.out.size)).mono ?_
    rintro e w2 ⟨rfl, hb2, hi2⟩
    have hz2 : w2.cell? ⟨w1.heap.size, 0, none⟩ = some (.int .u64 (sumW (ofDom a1 l0_1))) := (blk_cell hi2 0).trans rfl
    have HB2 := Aside0.mk hb2
    clear hb2 hi2 hz0 hz1
    go_wp2
    go_ret2
    exact ⟨rfl, HB2.out⟩
  · rw [if_neg c] at hmr
    have c0 : (m != 0) = true := bne_iff_ne.mpr c
    have c1 : (m == 0) = false := beq_eq_false_iff_ne.mpr c
    clear c
    obtain ⟨rfl, rfl⟩ := Prod.mk.inj (Option.some.inj hmr)
    go_enter Try.func25, Try.ntmps25
    go_wp2_with fail
    refine (table_may.calls k a0_0 _ _ l0_1 0 a1 m _ (Kd.C_alloc HR.out _) HC.out HM.out).mono ?_
    rintro e w1 ⟨rfl, hb⟩
    have HB1 := Aside0.mk (below_step (below_alloc (Below.refl w.heap.size w) _) hb)
    clear hb
    go_wp2
    go_ret2
    exact ⟨rfl, HB1.out⟩
end Go.Proofs.Ytiacikmignjdoaa.QTableAdds

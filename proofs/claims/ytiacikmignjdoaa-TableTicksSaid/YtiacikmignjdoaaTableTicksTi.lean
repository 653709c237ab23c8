/- Ticks: at how many of the first ticks a domain has some P: each of its slots marks its ticks in a row of truths; the marks are counted.
   Conditions: the table reads as a list of lists of slots; 'may' has told whether it may be asked. -/
import Derived.Test.YtiacikmignjdoaaTableTicksK
import Derived.Test.YtiacikmignjdoaaArr
import Derived.Test.YtiacikmignjdoaaQTableTicksx2
import Derived.Deep.QuietTactic
import Derived.BigQuiet
set_option linter.unusedVariables false
set_option linter.unusedSimpArgs false
namespace Go.Proofs.Ytiacikmignjdoaa.QTableTicks
open Go.RowKit Go.Proofs.Ytiacikmignjdoaa.Arr Go.Proofs.Ytiacikmignjdoaa.KTableTicks Go.Proofs.YtiacikmignjdoaaW.PrintWords Go.Proofs.YtiacikmignjdoaaW.PrintLast Go.Proofs.YtiacikmignjdoaaW.PrintMore

/-- n places from a on are marked. -/
def markB (m : List Bool) (a : Nat) : Nat → List Bool
  | 0 => m
  | n + 1 => (markB m a n).set (a + n) true
theorem markB_length (m : List Bool) (a : Nat) : ∀ n, (markB m a n).length = m.length
  | 0 => rfl
  | n + 1 => by simp [markB, markB_length m a n]
def markS (m : List Bool) (s : S48) : List Bool := markB m s.f1.f0.toNat s.f1.f1.toNat
def marks (F : Int) (l : List S48) : List Bool := l.foldl markS (List.replicate F.toNat false)
theorem marks_snoc (F : Int) (l : List S48) (s : S48) : marks F (l ++ [s]) = markS (marks F l) s := by simp [marks, List.foldl_append]
theorem marks_length (F : Int) (l : List S48) : (marks F l).length = F.toNat := by
  have : ∀ (l : List S48) (m : List Bool), (l.foldl markS m).length = m.length := by
    intro l
    induction l with
    | nil => intro m; rfl
    | cons s r ih => intro m; rw [List.foldl_cons, ih, markS, markB_length]
  simp [marks, this]

/-- A slot lies in the frame. -/
def inFrame (F : Int) (s : S48) : Bool := decide (0 ≤ s.f1.f0 ∧ 0 ≤ s.f1.f1 ∧ s.f1.f0 + s.f1.f1 ≤ F)

set_option maxHeartbeats 1000000 in
set_option maxRecDepth 100000 in
theorem ticks1_any (F : Int) (hF : 1 ≤ F ∧ F ≤ 65536) (s : S48) (hs : 0 ≤ s.f1.f0 ∧ 0 ≤ s.f1.f1 ∧ s.f1.f0 + s.f1.f1 ≤ F) (m : List Bool) (hm : m.length = F.toNat) (gs ga : Nat) (w : World) (hne : ga < gs)
    (hv : w.heap[gs]? = some (.cells #[.slice (some ⟨ga, 0, none⟩) F.toNat F.toNat] 70 (0, 0))) (hA : HasArr Value.bool 4 ga m w) :
    Calls Try.prog 46 #[.agg #[.int .i64 s.f0, .int .u64 s.f1.f0, .int .u64 s.f1.f1, .int .u64 s.f2], .pointer (some ⟨gs, 0, none⟩)] w fun e w' => e = .returned (.tuple #[]) ∧ Below ga w w' ∧ w'.heap[gs]? = some (.cells #[.slice (some ⟨ga, 0, none⟩) F.toNat F.toNat] 70 (0, 0)) ∧ HasArr Value.bool 4 ga (markS m s) w' := by
  have hu48 := Try.underlying48
  have hu46 := Try.underlying46
  have hltA := hA.lt
  have HV := Aside0.mk hv
  have HA := Aside0.mk hA
  have HM := Aside0.mk hm
  clear hv hA hm
  go_enter Try.func46, Try.ntmps46
  go_wp2
  go_loopw [7] (fun v7 wq => ∃ x : Int, v7 = .int .u64 x ∧ Aside0 (0 ≤ x ∧ x ≤ s.f1.f1) ∧ Aside0 (Below ga w wq) ∧ Aside0 (wq.heap[gs]? = some (.cells #[.slice (some ⟨ga, 0, none⟩) F.toNat F.toNat] 70 (0, 0))) ∧ Aside0 (HasArr Value.bool 4 ga (markB m s.f1.f0.toNat x.toNat) wq) ∧ Aside0 (wq.heap[w.heap.size]? = some (.cells #[.int .i64 s.f0, .int .u64 s.f1.f0, .int .u64 s.f1.f1, .int .u64 s.f2] 48 (0, 0)))) (fun v7 _ => s.f1.f1.toNat - (intOf v7).toNat)
  case atStart => exact ⟨0, rfl, ⟨by omega⟩, ⟨(Below.refl _ _).alloc (by omega) _⟩, ⟨blk_alloc HV.out _⟩, ⟨HA.out.alloc _⟩, ⟨blk_new _ _⟩⟩
  case round =>
    clear HV HA
    obtain ⟨x, rfl, HX, HB, HV, HA, HS⟩ := hrel
    have hz0 : wr.cell? ⟨gs, 0, none⟩ = some (.slice (some ⟨ga, 0, none⟩) F.toNat F.toNat) := (blk_cell HV.out 0).trans rfl
    have hz1 : wr.cell? ⟨w.heap.size, 1, none⟩ = some (.int .u64 s.f1.f0) := (blk_cell HS.out 1).trans rfl
    by_cases hlt : x < s.f1.f1
    · have x0 : 0 ≤ x := HX.out.1
      have hF0 : (F.toNat : Int) = F := by omega
      have hi : (s.f1.f0 + x).toNat < (markB m s.f1.f0.toNat x.toNat).length := by rw [markB_length, HM.out]; omega
      have hz2 := HA.out.cell false (s.f1.f0 + x).toNat hi
      have hz3 := HA.out.free (s.f1.f0 + x).toNat
      have b1 : 0 ≤ s.f1.f0 + x := by omega
      have b2 : s.f1.f0 + x < (F.toNat : Int) := by omega
      have b3 : s.f1.f0 + x ≤ 65536 := by omega
      have HFF := Aside0.mk hF0
      clear hi hF0
      go_wp2
      go_roundw
      case rel =>
        have e1 : (s.f1.f0 + x).toNat = s.f1.f0.toNat + x.toNat := by omega
        exact ⟨x + 1, rfl, ⟨by omega⟩, ⟨HB.out.setCell (p := ⟨ga, (s.f1.f0 + x).toNat, none⟩) (Nat.le_refl _) _⟩, ⟨blk_far HV.out (p := ⟨ga, (s.f1.f0 + x).toNat, none⟩) (by simp; omega) _⟩,
          ⟨by rw [toNat1 x0, markB, ← e1]; exact HA.out.set _ true⟩, ⟨blk_far HS.out (p := ⟨ga, (s.f1.f0 + x).toNat, none⟩) (by simp; omega) _⟩⟩
      case measure => simp [intOf]; omega
    · go_wp2
      go_end0
      have hx : x.toNat = s.f1.f1.toNat := by have := HX.out; omega
      exact ⟨rfl, HB.out, HV.out, by unfold markS; rw [← hx]; exact HA.out⟩

theorem ticks_each (F : Int) (hF : 1 ≤ F ∧ F ≤ 65536) (B : Nat) (w0 : World) (d : Int) (ls : List (List S48)) (hin : ∀ s ∈ ls.flatten, s.f0 = d → inFrame F s = true) (ga gs : Nat) (hg : B ≤ ga) (hne : ga < gs) (b : Nat) (o : Obj) (hb : b < ga) :
    Each B w0 d ls 46 #[.pointer (some ⟨gs, 0, none⟩)] (fun done wr => (wr.heap[gs]? = some (.cells #[.slice (some ⟨ga, 0, none⟩) F.toNat F.toNat] 70 (0, 0)) ∧ HasArr Value.bool 4 ga (marks F done) wr) ∧ wr.heap[b]? = some o) where
  alloc := fun done wr o _ h => ⟨⟨blk_alloc h.1.1 o, h.1.2.alloc o⟩, blk_alloc h.2 o⟩
  step := by
    intro done s wr hs hd hbl h
    refine (ticks1_any F hF s (by simpa [inFrame] using hin s hs hd) (marks F done) (marks_length F done) gs ga wr hne h.1.1 h.1.2).mono ?_
    rintro e w' ⟨rfl, hb1, h1, h2⟩
    exact ⟨rfl, hbl.trans (hb1.mono hg), ⟨h1, by rw [marks_snoc]; exact h2⟩, (hb1.block b hb).trans h.2⟩

/-- How many of the first places are marked. -/
def cntT (m : List Bool) : Int := ((m.filter (fun b => b)).length : Int)
theorem cntT_snoc (m : List Bool) (i : Nat) (h : i < m.length) : cntT (m.take (i + 1)) = cntT (m.take i) + if m.getD i false = true then 1 else 0 := by
  have e : m[i] = m.getD i false := by rw [List.getD_eq_getElem?_getD, List.getElem?_eq_getElem h]; rfl
  unfold cntT
  rw [List.take_succ_eq_append_getElem h, List.filter_append, e]
  cases m.getD i false <;> simp
theorem cntT_le (m : List Bool) : 0 ≤ cntT m ∧ cntT m ≤ m.length := by
  unfold cntT
  have := List.length_filter_le (fun b : Bool => b) m
  omega

set_option maxHeartbeats 1000000 in
set_option maxRecDepth 100000 in
theorem ticks2_any (F : Int) (hF : 1 ≤ F ∧ F ≤ 65536) (m : List Bool) (hm : m.length = F.toNat) (up : Int) (hup : 0 ≤ up ∧ up ≤ F) (gs ga : Nat) (w : World)
    (hv : w.heap[gs]? = some (.cells #[.slice (some ⟨ga, 0, none⟩) F.toNat F.toNat] 70 (0, 0))) (hA : HasArr Value.bool 4 ga m w) :
    Calls Try.prog 47 #[.int .u64 up, .pointer (some ⟨gs, 0, none⟩)] w fun e w' => e = .returned (.int .u64 (cntT (m.take up.toNat))) ∧ w = w' := by
  have HV := Aside0.mk hv
  have HA := Aside0.mk hA
  have HM := Aside0.mk hm
  have hz0 : w.cell? ⟨gs, 0, none⟩ = some (.slice (some ⟨ga, 0, none⟩) F.toNat F.toNat) := (blk_cell HV.out 0).trans rfl
  clear hv hA hm
  have b0 : up ≤ (F.toNat : Int) := by omega
  have b1 : (F.toNat : Int) ≤ 65536 := by omega
  have hmx : max up 0 = up := by omega
  go_enter Try.func47, Try.ntmps47
  go_wp2
  go_loop [4, 11] (fun c i => ∃ x : Int, i = .int .i64 x ∧ c = .int .u64 (cntT (m.take x.toNat)) ∧ Aside0 (0 ≤ x ∧ x ≤ up)) (fun _ i => up.toNat - (intOf i).toNat)
  case atStart => exact ⟨0, rfl, rfl, ⟨by omega⟩⟩
  case round =>
    obtain ⟨x, rfl, rfl, HX⟩ := hrel
    by_cases hlt : x < up
    · have x0 : 0 ≤ x := HX.out.1
      have hi : x.toNat < m.length := by rw [HM.out]; omega
      have hz1 := HA.out.cell false x.toNat hi
      have hsn := cntT_snoc m x.toNat hi
      have hle := cntT_le (m.take x.toNat)
      have hl2 : (m.take x.toNat).length ≤ x.toNat := List.length_take_le _ _
      by_cases hb : m.getD x.toNat false = true
      · rw [hb] at hz1
        rw [if_pos hb, ← toNat1 x0] at hsn
        have HS := Aside0.mk hsn
        have q0 : 0 ≤ cntT (m.take x.toNat) := hle.1
        have q1 : cntT (m.take x.toNat) ≤ 65536 := by omega
        clear hsn hb hi hle hl2
        go_wp2
        go_round
        case rel => exact ⟨x + 1, rfl, by rw [HS.out], ⟨by omega⟩⟩
        case measure => simp [intOf]; omega
      · rw [Bool.not_eq_true] at hb
        rw [hb] at hz1
        rw [hb, if_neg (by simp), ← toNat1 x0] at hsn
        have HS := Aside0.mk hsn
        clear hsn hb hi hle hl2
        go_wp2
        go_round
        case rel => exact ⟨x + 1, rfl, by rw [HS.out, Int.add_zero], ⟨by omega⟩⟩
        case measure => simp [intOf]; omega
    · have hx : x = up := by have := HX.out; omega
      have HXX := Aside0.mk hx
      clear hx
      go_wp2
      go_ret
      exact ⟨by rw [HXX.out]; rfl, rfl⟩

def table_Ticks.f (k : Nat) (a0_0 : Int) (l0_1 : List (List (S48))) (a1 : Int) (a2 : Int) : Option (Int × Int) := (table_may.f k a0_0 l0_1 0 a2).bind fun m => if m = 0 then (if 1 ≤ a0_0 ∧ a0_0 ≤ 65536 ∧ 0 ≤ a1 ∧ (l0_1.flatten.all fun s => decide (s.f0 = a2) → inFrame a0_0 s) = true then some (IntKind.u64.wrap (IntKind.u64.wrap (IntKind.u64.wrap (a1.tdiv a0_0) * cntT ((marks a0_0 (ofDom a2 l0_1)).take a0_0.toNat)) + cntT ((marks a0_0 (ofDom a2 l0_1)).take (a1 % a0_0).toNat)), 0) else none) else some (0, m)
theorem table_Ticks.mono : ∀ a0 a1 a2 a3 k, LeO (table_Ticks.f k a0 a1 a2 a3) (table_Ticks.f (k + 1) a0 a1 a2 a3) := by
  intro a0 a1 a2 a3 k
  unfold table_Ticks.f
  exact LeO.bind (table_may.mono _ _ _ _ _) (fun _ => LeO.refl _)

theorem info4 : (Try.prog.info? 4).map (fun i => (i.zero, i.size, i.bytes)) = some (some (.bool false), 1, 1) := by kernel_rfl
theorem make_bools (F : Int) (hF : 1 ≤ F ∧ F ≤ 65536) (W : World) : (Instr.makeSlice 70 (.int .u64 F) (.int .u64 F)).run Try.prog W = .ok (.slice (some ⟨W.heap.size, 0, none⟩) F.toNat F.toNat) (W.alloc (.cells (madeCells #[.bool false] F.toNat) 4)) := by
  obtain ⟨i0, hi, hzz⟩ := Option.map_eq_some_iff.1 info4
  simp only [Prod.mk.injEq] at hzz
  obtain ⟨hz0, hz1, hz2⟩ := hzz
  have h := run_make (P := Try.prog) W 70 4 i0 (.bool false) Try.underlying70 hi hz0 .u64 .u64 F F (by omega) (by omega) (by rw [hz2]; omega) (by omega)
  rw [h, hz1, Nat.mul_one]
  rfl

set_option maxHeartbeats 2000000 in
set_option maxRecDepth 100000 in
theorem table_Ticks.calls (k : Nat) (a0_0 : Int) (A0_1 : Option Addr) (c0_1 : Nat) (l0_1 : List (List (S48))) (a1 : Int) (a2 : Int) (r1 : Int) (r2 : Int) (w : World) (hr0_1 : Kd.C (Kd.slice 48 k48) w A0_1 l0_1.length l0_1) (hc0_1 : l0_1.length ≤ c0_1) (h : table_Ticks.f k a0_0 l0_1 a1 a2 = some (r1, r2)) :
    Calls Try.prog 27 #[.agg #[.int .u64 a0_0, .slice A0_1 l0_1.length c0_1], .int .u64 a1, .int .i64 a2] w fun e w' => e = .returned (.tuple #[.int .u64 r1, .int .i64 r2]) ∧ Below w.heap.size w w' := by
  have hu25 := Try.underlying25
  obtain ⟨m, hm, hmr⟩ := Option.bind_eq_some_iff.mp h
  have HM := Aside0.mk hm
  have HR := Aside0.mk hr0_1
  have HC := Aside0.mk hc0_1
  clear h hm hr0_1 hc0_1
  have hmf : ∀ (fn : Fn) (first cap : Array Value) (w : World), (Instr.makeFunc fn first cap).run Try.prog w = .ok (.func fn first cap) w := fun _ _ _ _ => rfl
  by_cases c : m = 0
  · rw [if_pos c] at hmr
    have c0 : (m != 0) = false := bne_eq_false_iff_eq.mpr c
    have c1 : (m == 0) = true := beq_iff_eq.mpr c
    clear c
    by_cases hok : 1 ≤ a0_0 ∧ a0_0 ≤ 65536 ∧ 0 ≤ a1 ∧ (l0_1.flatten.all fun s => decide (s.f0 = a2) → inFrame a0_0 s) = true
    · rw [if_pos hok] at hmr
      obtain ⟨rfl, rfl⟩ := Prod.mk.inj (Option.some.inj hmr)
      obtain ⟨f1, f2, f3, f4⟩ := hok
      have HIN : Aside0 (∀ s ∈ l0_1.flatten, s.f0 = a2 → inFrame a0_0 s = true) := ⟨fun s hs hd => by
        have := List.all_eq_true.1 f4 s hs
        simpa [hd] using this⟩
      have hmk := make_bools a0_0 ⟨f1, f2⟩
      clear f4 hmr
      go_enter Try.func27, Try.ntmps27
      go_wp2_with fail
      refine (table_may.calls k a0_0 _ _ l0_1 0 a2 m _ (Kd.C_alloc HR.out _) HC.out HM.out).mono ?_
      rintro e w1 ⟨rfl, hb⟩
      have hbox := blk_below (blk_new w (.cells #[.int .u64 a0_0, .slice A0_1 l0_1.length c0_1] 25 (0, 0))) hb
      have hz0 : w1.cell? ⟨w.heap.size, 0, none⟩ = some (.int .u64 a0_0) := (blk_cell hbox 0).trans rfl
      have hz1 : w1.cell? ⟨w.heap.size, 1, none⟩ = some (.slice A0_1 l0_1.length c0_1) := (blk_cell hbox 1).trans rfl
      have HB1 := Aside0.mk (below_step (below_alloc (Below.refl w.heap.size w) _) hb)
      have hlt1 : w.heap.size < w1.heap.size := blk_lt hbox
      have hne1 : ¬ w.heap.size = w1.heap.size := by omega
      have HX := Aside0.mk hbox
      clear hbox hb
      go_wp2_with fail
      refine (slots_any 46 (fun args w => enters_ Try.func46 (by kernel_rfl) rfl args w) a0_0 A0_1 c0_1 l0_1 a2 #[.pointer (some ⟨w1.heap.size + 1, 0, none⟩)] w _ (below_alloc (below_alloc HB1.out _) _) HR.out HC.out
        (fun done wr => (wr.heap[w1.heap.size + 1]? = some (.cells #[.slice (some ⟨w1.heap.size, 0, none⟩) a0_0.toNat a0_0.toNat] 70 (0, 0)) ∧ HasArr Value.bool 4 w1.heap.size (marks a0_0 done) wr) ∧ wr.heap[w.heap.size]? = some (.cells #[.int .u64 a0_0, .slice A0_1 l0_1.length c0_1] 25 (0, 0)))
        ⟨⟨(by rw [← World.size_alloc w1 (.cells (madeCells #[.bool false] a0_0.toNat) 4 (0, 0))]; exact blk_new _ _), (HasArr.made Value.bool 4 false a0_0.toNat w1).alloc _⟩, blk_alloc (blk_alloc HX.out _) _⟩
        (ticks_each a0_0 ⟨f1, f2⟩ _ _ _ _ HIN.out _ _ HB1.out.size (Nat.lt_succ_self _) _ _ hlt1)).mono ?_
      rintro e w2 ⟨rfl, hb2, ⟨hv2, hA2⟩, hbx2⟩
      have HB2 := Aside0.mk hb2
      have HV2 := Aside0.mk hv2
      have HA2 := Aside0.mk hA2
      clear hb2 hv2 hA2 hz0 hz1
      have hz2 : w2.cell? ⟨w.heap.size, 0, none⟩ = some (.int .u64 a0_0) := (blk_cell hbx2 0).trans rfl
      clear hbx2
      have m0 := Int.emod_nonneg a1 (show a0_0 ≠ 0 by omega)
      have m1 := Int.emod_lt_of_pos a1 (show 0 < a0_0 by omega)
      have z0 : (a0_0 == 0) = false := beq_eq_false_iff_ne.mpr (by omega)
      have z1 : ¬ a0_0 = 0 := by omega
      have hq : ∀ (up : Int) (n : Nat), 0 ≤ up ∧ up ≤ a0_0 → Calls Try.prog 47 #[.int .u64 up, .pointer (some ⟨w1.heap.size + 1, 0, none⟩)] (w2.drewN n) fun e w' => e = .returned (.int .u64 (cntT ((marks a0_0 (ofDom a2 l0_1)).take up.toNat))) ∧ w' = w2.drewN n :=
        fun up n hup => (ticks2_any a0_0 ⟨f1, f2⟩ _ (marks_length a0_0 _) up hup _ _ (w2.drewN n) HV2.out HA2.out).mono fun _ _ ⟨he, hw⟩ => ⟨he, hw.symm⟩
      have HQ := Aside0.mk hq
      clear hq HIN
      go_wp2_with fail
      refine wp_region_quiet_lit (by kernel_rfl) (by kernel_rfl) ?_
      repeat (first | go_big_quiet_step ((go_at_call 47; exact Calls.quiet_of_same (HQ.out _ _ (by omega)))))
      refine wpQuiet_nil ?_
      intro _ hw'
      obtain ⟨nq, hw''⟩ := hw'
      subst hw''
      go_wp2
      go_ret2
      exact ⟨rfl, pw_below_drewN HB2.out nq⟩
    · rw [if_neg hok] at hmr
      cases hmr
  · rw [if_neg c] at hmr
    have c0 : (m != 0) = true := bne_iff_ne.mpr c
    have c1 : (m == 0) = false := beq_eq_false_iff_ne.mpr c
    clear c
    obtain ⟨rfl, rfl⟩ := Prod.mk.inj (Option.some.inj hmr)
    go_enter Try.func27, Try.ntmps27
    go_wp2_with fail
    refine (table_may.calls k a0_0 _ _ l0_1 0 a2 m _ (Kd.C_alloc HR.out _) HC.out HM.out).mono ?_
    rintro e w1 ⟨rfl, hb⟩
    have HB1 := Aside0.mk (below_step (below_alloc (Below.refl w.heap.size w) _) hb)
    clear hb
    go_wp2
    go_ret2
    exact ⟨rfl, HB1.out⟩
end Go.Proofs.Ytiacikmignjdoaa.QTableTicks

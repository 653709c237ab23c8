/- Supply: each slot of a domain adds one to each of its ticks but its pad, in a row of a frame's length; a second row sums these up over two frames; the least of a stretch is sought.
   Conditions: the table reads as a list of lists of slots; 'may' has told whether it may be asked. -/
import Derived.Test.YtiacikmignjdoaaTableAddsK
import Derived.Test.YtiacikmignjdoaaArr
import Derived.Test.YtiacikmignjdoaaQTableAddsx2
import Derived.Deep.QuietTactic
import Derived.BigQuiet
import Derived.StillTailTactics
attribute [local go_sem] Go.Proofs.YtiacikmignjdoaaW.PrintMore.min2_int Go.Proofs.YtiacikmignjdoaaW.PrintMore.min_two
set_option linter.unusedVariables false
set_option linter.unusedSimpArgs false
namespace Go.Proofs.Ytiacikmignjdoaa.QTableAdds
open Go.RowKit Go.Proofs.Ytiacikmignjdoaa.Arr Go.Proofs.Ytiacikmignjdoaa.KTableAdds Go.Proofs.YtiacikmignjdoaaW.PrintWords Go.Proofs.YtiacikmignjdoaaW.PrintLast Go.Proofs.YtiacikmignjdoaaW.PrintMore

/-- n places from a on are one more. -/
def bumpB (m : List Int) (a : Nat) : Nat → List Int
  | 0 => m
  | n + 1 => (bumpB m a n).set (a + n) (IntKind.u64.wrap ((bumpB m a n).getD (a + n) 0 + 1))
theorem bumpB_length (m : List Int) (a : Nat) : ∀ n, (bumpB m a n).length = m.length
  | 0 => rfl
  | n + 1 => by simp [bumpB, bumpB_length m a n]
def bumpS (m : List Int) (s : S48) : List Int := bumpB m s.f1.f0.toNat (s.f1.f1 - s.f2).toNat
def gives (F : Int) (l : List S48) : List Int := l.foldl bumpS (List.replicate F.toNat 0)
theorem gives_snoc (F : Int) (l : List S48) (s : S48) : gives F (l ++ [s]) = bumpS (gives F l) s := by simp [gives, List.foldl_append]
theorem gives_length (F : Int) (l : List S48) : (gives F l).length = F.toNat := by
  have : ∀ (l : List S48) (m : List Int), (l.foldl bumpS m).length = m.length := by
    intro l
    induction l with
    | nil => intro m; rfl
    | cons s r ih => intro m; rw [List.foldl_cons, ih, bumpS, bumpB_length]
  simp [gives, this]

/-- A slot lies in the frame, its pad in it. -/
def inFrameP (F : Int) (s : S48) : Bool := decide (0 ≤ s.f1.f0 ∧ 0 ≤ s.f2 ∧ s.f2 ≤ s.f1.f1 ∧ s.f1.f0 + s.f1.f1 ≤ F)

set_option maxHeartbeats 1000000 in
set_option maxRecDepth 100000 in
theorem supply1_any (F : Int) (hF : 1 ≤ F ∧ F ≤ 65536) (s : S48) (hs : 0 ≤ s.f1.f0 ∧ 0 ≤ s.f2 ∧ s.f2 ≤ s.f1.f1 ∧ s.f1.f0 + s.f1.f1 ≤ F) (m : List Int) (hm : m.length = F.toNat) (gs ga : Nat) (w : World) (hne : ga < gs)
    (hv : w.heap[gs]? = some (.cells #[.slice (some ⟨ga, 0, none⟩) F.toNat F.toNat] 73 (0, 0))) (hA : HasArr (Value.int .u64) 22 ga m w) :
    Calls Try.prog 49 #[.agg #[.int .i64 s.f0, .int .u64 s.f1.f0, .int .u64 s.f1.f1, .int .u64 s.f2], .pointer (some ⟨gs, 0, none⟩)] w fun e w' => e = .returned (.tuple #[]) ∧ Below ga w w' ∧ w'.heap[gs]? = some (.cells #[.slice (some ⟨ga, 0, none⟩) F.toNat F.toNat] 73 (0, 0)) ∧ HasArr (Value.int .u64) 22 ga (bumpS m s) w' := by
  have hu48 := Try.underlying48
  have hu46 := Try.underlying46
  have hltA := hA.lt
  have HV := Aside0.mk hv
  have HA := Aside0.mk hA
  have HM := Aside0.mk hm
  clear hv hA hm
  go_enter Try.func49, Try.ntmps49
  go_wp2
  go_loopw [10] (fun v7 wq => ∃ x : Int, v7 = .int .u64 x ∧ Aside0 (0 ≤ x ∧ x ≤ s.f1.f1 - s.f2) ∧ Aside0 (Below ga w wq) ∧ Aside0 (wq.heap[gs]? = some (.cells #[.slice (some ⟨ga, 0, none⟩) F.toNat F.toNat] 73 (0, 0))) ∧ Aside0 (HasArr (Value.int .u64) 22 ga (bumpB m s.f1.f0.toNat x.toNat) wq) ∧ Aside0 (wq.heap[w.heap.size]? = some (.cells #[.int .i64 s.f0, .int .u64 s.f1.f0, .int .u64 s.f1.f1, .int .u64 s.f2] 48 (0, 0)))) (fun v7 _ => (s.f1.f1 - s.f2).toNat - (intOf v7).toNat)
  case atStart => exact ⟨0, rfl, ⟨by omega⟩, ⟨(Below.refl _ _).alloc (by omega) _⟩, ⟨blk_alloc HV.out _⟩, ⟨HA.out.alloc _⟩, ⟨blk_new _ _⟩⟩
  case round =>
    clear HV HA
    obtain ⟨x, rfl, HX, HB, HV, HA, HS⟩ := hrel
    have hz0 : wr.cell? ⟨gs, 0, none⟩ = some (.slice (some ⟨ga, 0, none⟩) F.toNat F.toNat) := (blk_cell HV.out 0).trans rfl
    have hz1 : wr.cell? ⟨w.heap.size, 1, none⟩ = some (.int .u64 s.f1.f0) := (blk_cell HS.out 1).trans rfl
    by_cases hlt : x < s.f1.f1 - s.f2
    · have x0 : 0 ≤ x := HX.out.1
      have hF0 : (F.toNat : Int) = F := by omega
      have hi : (s.f1.f0 + x).toNat < (bumpB m s.f1.f0.toNat x.toNat).length := by rw [bumpB_length, HM.out]; omega
      have hz2 := HA.out.cell 0 (s.f1.f0 + x).toNat hi
      have hz3 := HA.out.free (s.f1.f0 + x).toNat
      have b1 : 0 ≤ s.f1.f0 + x := by omega
      have b2 : s.f1.f0 + x < (F.toNat : Int) := by omega
      have b3 : s.f1.f0 + x ≤ 65536 := by omega
      have HFF := Aside0.mk hF0
      clear hi hF0
      generalize hgen : (bumpB m s.f1.f0.toNat x.toNat).getD (s.f1.f0 + x).toNat 0 = val at hz2
      have HG := Aside0.mk hgen
      clear hgen
      go_wp2
      go_roundw
      case rel =>
        have e1 : (s.f1.f0 + x).toNat = s.f1.f0.toNat + x.toNat := by omega
        exact ⟨x + 1, rfl, ⟨by omega⟩, ⟨HB.out.setCell (p := ⟨ga, (s.f1.f0 + x).toNat, none⟩) (Nat.le_refl _) _⟩, ⟨blk_far HV.out (p := ⟨ga, (s.f1.f0 + x).toNat, none⟩) (by simp; omega) _⟩,
          ⟨by rw [toNat1 x0, bumpB, ← e1, HG.out]; exact HA.out.set _ _⟩, ⟨blk_far HS.out (p := ⟨ga, (s.f1.f0 + x).toNat, none⟩) (by simp; omega) _⟩⟩
      case measure => simp [intOf]; omega
    · go_wp2
      go_end0
      have hx : x.toNat = (s.f1.f1 - s.f2).toNat := by have := HX.out; omega
      exact ⟨rfl, HB.out, HV.out, by unfold bumpS; rw [← hx]; exact HA.out⟩

theorem supply_each (F : Int) (hF : 1 ≤ F ∧ F ≤ 65536) (B : Nat) (w0 : World) (d : Int) (ls : List (List S48)) (hin : ∀ s ∈ ls.flatten, s.f0 = d → inFrameP F s = true) (ga gs : Nat) (hg : B ≤ ga) (hne : ga < gs) (b : Nat) (o : Obj) (hb : b < ga) :
    Each B w0 d ls 49 #[.pointer (some ⟨gs, 0, none⟩)] (fun done wr => (wr.heap[gs]? = some (.cells #[.slice (some ⟨ga, 0, none⟩) F.toNat F.toNat] 73 (0, 0)) ∧ HasArr (Value.int .u64) 22 ga (gives F done) wr) ∧ wr.heap[b]? = some o) where
  alloc := fun done wr o _ h => ⟨⟨blk_alloc h.1.1 o, h.1.2.alloc o⟩, blk_alloc h.2 o⟩
  step := by
    intro done s wr hs hd hbl h
    refine (supply1_any F hF s (by simpa [inFrameP] using hin s hs hd) (gives F done) (gives_length F done) gs ga wr hne h.1.1 h.1.2).mono ?_
    rintro e w' ⟨rfl, hb1, h1, h2⟩
    exact ⟨rfl, hbl.trans (hb1.mono hg), ⟨h1, by rw [gives_snoc]; exact h2⟩, (hb1.block b hb).trans h.2⟩

/-- The sums of the ticks ahead of each place, over two frames. -/
def sums (F : Int) (g : List Int) : Nat → List Int
  | 0 => List.replicate (2 * F + 1).toNat 0
  | n + 1 => (sums F g n).set (n + 1) (IntKind.u64.wrap ((sums F g n).getD n 0 + g.getD ((n : Int) % F).toNat 0))
theorem sums_length (F : Int) (g : List Int) : ∀ n, (sums F g n).length = (2 * F + 1).toNat
  | 0 => by simp [sums]
  | n + 1 => by simp [sums, sums_length F g n]
/-- The least of a stretch. -/
def leastB (s : List Int) (rest : Nat) : Nat → Int
  | 0 => s.getD rest 0
  | n + 1 => mn (leastB s rest n) (IntKind.u64.wrap (s.getD (n + rest) 0 - s.getD n 0))

theorem info22s : (Try.prog.info? 22).map (fun i => (i.zero, i.size, i.bytes)) = some (some (.int .u64 0), 1, 8) := by kernel_rfl
theorem make_nums (n : Int) (hn : 0 ≤ n ∧ n ≤ 200000) (W : World) : (Instr.makeSlice 73 (.int .u64 n) (.int .u64 n)).run Try.prog W = .ok (.slice (some ⟨W.heap.size, 0, none⟩) n.toNat n.toNat) (W.alloc (.cells (madeCells #[.int .u64 0] n.toNat) 22)) := by
  obtain ⟨i0, hi, hzz⟩ := Option.map_eq_some_iff.1 info22s
  simp only [Prod.mk.injEq] at hzz
  obtain ⟨hz0, hz1, hz2⟩ := hzz
  have h := run_make (P := Try.prog) W 73 22 i0 (.int .u64 0) Try.underlying73 hi hz0 .u64 .u64 n n (by omega) (by omega) (by rw [hz2]; omega) (by omega)
  rw [h, hz1, Nat.mul_one]
  rfl

def supplyV (F n : Int) (g : List Int) : Int :=
  IntKind.u64.wrap (IntKind.u64.wrap (n / F * (sums F g (2 * F).toNat).getD F.toNat 0) + leastB (sums F g (2 * F).toNat) (n % F).toNat F.toNat)

def table_Supply.f (k : Nat) (a0_0 : Int) (l0_1 : List (List (S48))) (a1 : Int) (a2 : Int) : Option (Int × Int) := (table_may.f k a0_0 l0_1 0 a1).bind fun m => if m = 0 then (if a2 > 281474976710656 then some (0, 1) else if 1 ≤ a0_0 ∧ a0_0 ≤ 65536 ∧ 0 ≤ a2 ∧ (l0_1.flatten.all fun s => decide (s.f0 = a1) → inFrameP a0_0 s) = true then some (supplyV a0_0 a2 (gives a0_0 (ofDom a1 l0_1)), 0) else none) else some (0, m)
theorem table_Supply.mono : ∀ a0 a1 a2 a3 k, LeO (table_Supply.f k a0 a1 a2 a3) (table_Supply.f (k + 1) a0 a1 a2 a3) := by
  intro a0 a1 a2 a3 k
  unfold table_Supply.f
  exact LeO.bind (table_may.mono _ _ _ _ _) (fun _ => LeO.refl _)

set_option maxHeartbeats 4000000 in
set_option maxRecDepth 100000 in
theorem table_Supply.calls (k : Nat) (a0_0 : Int) (A0_1 : Option Addr) (c0_1 : Nat) (l0_1 : List (List (S48))) (a1 : Int) (a2 : Int) (r1 : Int) (r2 : Int) (w : World) (hr0_1 : Kd.C (Kd.slice 48 k48) w A0_1 l0_1.length l0_1) (hc0_1 : l0_1.length ≤ c0_1) (h : table_Supply.f k a0_0 l0_1 a1 a2 = some (r1, r2)) :
    Calls Try.prog 29 #[.agg #[.int .u64 a0_0, .slice A0_1 l0_1.length c0_1], .int .i64 a1, .int .u64 a2] w fun e w' => e = .returned (.tuple #[.int .u64 r1, .int .i64 r2]) ∧ Below w.heap.size w w' := by
  have hu25 := Try.underlying25
  obtain ⟨m, hm, hmr⟩ := Option.bind_eq_some_iff.mp h
  have HM := Aside0.mk hm
  have HR := Aside0.mk hr0_1
  have HC := Aside0.mk hc0_1
  clear h hm hr0_1 hc0_1
  have hmf : ∀ (fn : Fn) (first cap : Array Value) (w : World), (Instr.makeFunc fn first cap).run Try.prog w = .ok (.func fn first cap) w := fun _ _ _ _ => rfl
  by_cases c : m = 0
  · rw [if_pos c] at hmr
    have c0 : (m != 0) = false := bne_eq_false_iff_eq.mpr c
    have c1 : (m == 0) = true := beq_iff_eq.mpr c
    clear c
    by_cases hbig : a2 > 281474976710656
    · rw [if_pos hbig] at hmr
      obtain ⟨rfl, rfl⟩ := Prod.mk.inj (Option.some.inj hmr)
      have d0 : decide ((281474976710656 : Int) < a2) = true := decide_eq_true hbig
      clear hbig hmr
      go_enter Try.func29, Try.ntmps29
      go_wp2_with fail
      refine (table_may.calls k a0_0 _ _ l0_1 0 a1 m _ (Kd.C_alloc HR.out _) HC.out HM.out).mono ?_
      rintro e w1 ⟨rfl, hb⟩
      have HB1 := Aside0.mk (below_step (below_alloc (Below.refl w.heap.size w) _) hb)
      clear hb
      go_wp2
      go_ret2
      exact ⟨rfl, HB1.out⟩
    rw [if_neg hbig] at hmr
    have hsm : a2 ≤ 281474976710656 := by omega
    have d0 : decide ((281474976710656 : Int) < a2) = false := decide_eq_false hbig
    clear hbig
    by_cases hok : 1 ≤ a0_0 ∧ a0_0 ≤ 65536 ∧ 0 ≤ a2 ∧ (l0_1.flatten.all fun s => decide (s.f0 = a1) → inFrameP a0_0 s) = true
    · rw [if_pos hok] at hmr
      obtain ⟨rfl, rfl⟩ := Prod.mk.inj (Option.some.inj hmr)
      obtain ⟨f1, f2, f3, f4⟩ := hok
      have HIN : Aside0 (∀ s ∈ l0_1.flatten, s.f0 = a1 → inFrameP a0_0 s = true) := ⟨fun s hs hd => by
        have := List.all_eq_true.1 f4 s hs
        simpa [hd] using this⟩
      have hmk := make_nums a0_0 ⟨by omega, by omega⟩
      have hmk2 := make_nums (2 * a0_0 + 1) ⟨by omega, by omega⟩
      clear f4 hmr
      go_enter Try.func29, Try.ntmps29
      go_wp2_with fail
      refine (table_may.calls k a0_0 _ _ l0_1 0 a1 m _ (Kd.C_alloc HR.out _) HC.out HM.out).mono ?_
      rintro e w1 ⟨rfl, hb⟩
      have hbox := blk_below (blk_new w (.cells #[.int .u64 a0_0, .slice A0_1 l0_1.length c0_1] 25 (0, 0))) hb
      have hz0 : w1.cell? ⟨w.heap.size, 0, none⟩ = some (.int .u64 a0_0) := (blk_cell hbox 0).trans rfl
      have hz1 : w1.cell? ⟨w.heap.size, 1, none⟩ = some (.slice A0_1 l0_1.length c0_1) := (blk_cell hbox 1).trans rfl
      have HB1 := Aside0.mk (below_step (below_alloc (Below.refl w.heap.size w) _) hb)
      have hlt1 : w.heap.size < w1.heap.size := blk_lt hbox
      have hne1 : ¬ w.heap.size = w1.heap.size := by omega
      have HX := Aside0.mk hbox
      clear hbox hb
      go_wp2_with fail
      refine (slots_any 49 (fun args w => enters_ Try.func49 (by kernel_rfl) rfl args w) a0_0 A0_1 c0_1 l0_1 a1 #[.pointer (some ⟨w1.heap.size + 1, 0, none⟩)] w _ (below_alloc (below_alloc HB1.out _) _) HR.out HC.out
        (fun done wr => (wr.heap[w1.heap.size + 1]? = some (.cells #[.slice (some ⟨w1.heap.size, 0, none⟩) a0_0.toNat a0_0.toNat] 73 (0, 0)) ∧ HasArr (Value.int .u64) 22 w1.heap.size (gives a0_0 done) wr) ∧ wr.heap[w.heap.size]? = some (.cells #[.int .u64 a0_0, .slice A0_1 l0_1.length c0_1] 25 (0, 0)))
        ⟨⟨(by rw [← World.size_alloc w1 (.cells (madeCells #[.int .u64 0] a0_0.toNat) 22 (0, 0))]; exact blk_new _ _), (HasArr.made (Value.int .u64) 22 0 a0_0.toNat w1).alloc _⟩, blk_alloc (blk_alloc HX.out _) _⟩
        (supply_each a0_0 ⟨f1, f2⟩ _ _ _ _ HIN.out _ _ HB1.out.size (Nat.lt_succ_self _) _ _ hlt1)).mono ?_
      rintro e w2 ⟨rfl, hb2, ⟨hv2, hA2⟩, hbx2⟩
      have HB2 := Aside0.mk hb2
      have HV2 := Aside0.mk hv2
      have HA2 := Aside0.mk hA2
      have HX2 := Aside0.mk hbx2
      clear hb2 hv2 hA2 hz0 hz1 hmk hne1 HX
      have hz2 : w2.cell? ⟨w.heap.size, 0, none⟩ = some (.int .u64 a0_0) := (blk_cell hbx2 0).trans rfl
      have hlt2 : w.heap.size < w2.heap.size := blk_lt hbx2
      have hne2 : ¬ w.heap.size = w2.heap.size := by omega
      clear hbx2
      go_wp2_with fail
      have hg2 : w1.heap.size + 1 < w2.heap.size := blk_lt HV2.out
      generalize hgv : gives a0_0 (ofDom a1 l0_1) = gv at *
      have hgl : gv.length = a0_0.toNat := by rw [← hgv, gives_length]
      have HGL := Aside0.mk hgl
      have HGV := Aside0.mk hgv
      clear hgv hgl hmk2
      go_loopw [39] (fun v39 wq => ∃ x : Int, v39 = .int .u64 x ∧ Aside0 (0 ≤ x ∧ x ≤ 2 * a0_0) ∧ Aside0 (Below w.heap.size w wq) ∧ Aside0 (wq.heap[w1.heap.size + 1]? = some (.cells #[.slice (some ⟨w1.heap.size, 0, none⟩) a0_0.toNat a0_0.toNat] 73 (0, 0))) ∧ Aside0 (HasArr (Value.int .u64) 22 w1.heap.size gv wq) ∧ Aside0 (HasArr (Value.int .u64) 22 w2.heap.size (sums a0_0 gv x.toNat) wq) ∧ Aside0 (wq.heap[w.heap.size]? = some (.cells #[.int .u64 a0_0, .slice A0_1 l0_1.length c0_1] 25 (0, 0)))) (fun v39 _ => (2 * a0_0).toNat - (intOf v39).toNat)
      case atStart => exact ⟨0, rfl, ⟨by omega⟩, ⟨below_alloc HB2.out _⟩, ⟨blk_alloc HV2.out _⟩, ⟨HA2.out.alloc _⟩, ⟨HasArr.made (Value.int .u64) 22 0 (2 * a0_0 + 1).toNat w2⟩, ⟨blk_alloc HX2.out _⟩⟩
      case round =>
        clear hz2 HB2 HV2 HA2 HX2
        obtain ⟨x, rfl, HX, HB, HV, HA, HS, HBX⟩ := hrel
        have hz0 : wr.cell? ⟨w.heap.size, 0, none⟩ = some (.int .u64 a0_0) := (blk_cell HBX.out 0).trans rfl
        have hz1 : wr.cell? ⟨w1.heap.size + 1, 0, none⟩ = some (.slice (some ⟨w1.heap.size, 0, none⟩) a0_0.toNat a0_0.toNat) := (blk_cell HV.out 0).trans rfl
        by_cases hlt : x < 2 * a0_0
        · have x0 : 0 ≤ x := HX.out.1
          have m0 : 0 ≤ x % a0_0 := Int.emod_nonneg x (show a0_0 ≠ 0 by omega)
          have m1 : x % a0_0 < a0_0 := Int.emod_lt_of_pos x (show 0 < a0_0 by omega)
          have m2 : x % a0_0 < (a0_0.toNat : Int) := by omega
          have x1 : x < ((2 * a0_0 + 1).toNat : Int) := by omega
          have x2 : x + 1 < ((2 * a0_0 + 1).toNat : Int) := by omega
          have x3 : 0 ≤ x + 1 := by omega
          have x4 : x + 1 ≤ 131072 := by omega
          have hz2 := HS.out.cell 0 x.toNat (by rw [sums_length]; omega)
          have hz3 := HS.out.cell 0 (x + 1).toNat (by rw [sums_length]; omega)
          have hz4 := HS.out.free (x + 1).toNat
          have hz5 := HA.out.cell 0 (x % a0_0).toNat (by rw [HGL.out]; omega)
          have q0 : (a0_0 == 0) = false := beq_eq_false_iff_ne.mpr (by omega)
          have q1 : ¬ a0_0 = 0 := by omega
          generalize hy1 : (sums a0_0 gv x.toNat).getD x.toNat 0 = y1 at hz2
          generalize hy2 : (sums a0_0 gv x.toNat).getD (x + 1).toNat 0 = y2 at hz3
          generalize hy3 : gv.getD (x % a0_0).toNat 0 = y3 at hz5
          have HY1 := Aside0.mk hy1
          have HY3 := Aside0.mk hy3
          clear hy1 hy2 hy3
          go_wp2_with fail
          go_region
          go_wp2
          go_roundw
          case rel =>
            have e1 : (x + 1).toNat = x.toNat + 1 := by omega
            have e2 : ((x.toNat : Nat) : Int) = x := by omega
            refine ⟨x + 1, rfl, ⟨by omega⟩, ⟨(HB.out.setCell (p := ⟨w2.heap.size, (x + 1).toNat, none⟩) (by simp; omega) _).drew⟩, ⟨blk_drew (blk_far HV.out (p := ⟨w2.heap.size, (x + 1).toNat, none⟩) (by simp; omega) _)⟩,
              ⟨HasArr.drewN (HA.out.far (p := ⟨w2.heap.size, (x + 1).toNat, none⟩) (by simp; omega) _) 1⟩, ⟨?_⟩, ⟨blk_drew (blk_far HBX.out (p := ⟨w2.heap.size, (x + 1).toNat, none⟩) (by simp; omega) _)⟩⟩
            rw [e1, sums, HY1.out, e2, HY3.out, ← e1]
            exact HasArr.drewN (HS.out.set (x + 1).toNat _) 1
          case measure => simp [intOf]; omega
        · have hx : x = 2 * a0_0 := by have := HX.out; omega
          rw [hx] at HS
          have HXX := Aside0.mk hx
          clear hx
          have m0 := Int.emod_nonneg a2 (show a0_0 ≠ 0 by omega)
          have m1 := Int.emod_lt_of_pos a2 (show 0 < a0_0 by omega)
          have k1 : a0_0 < ((2 * a0_0 + 1).toNat : Int) := by omega
          have k2 : a2 % a0_0 < ((2 * a0_0 + 1).toNat : Int) := by omega
          have hz2 := HS.out.cell 0 a0_0.toNat (by rw [sums_length]; omega)
          have hz3 := HS.out.cell 0 (a2 % a0_0).toNat (by rw [sums_length]; omega)
          have q0 : (a0_0 == 0) = false := beq_eq_false_iff_ne.mpr (by omega)
          have q1 : ¬ a0_0 = 0 := by omega
          generalize hy1 : (sums a0_0 gv (2 * a0_0).toNat).getD a0_0.toNat 0 = y1 at hz2
          generalize hy2 : (sums a0_0 gv (2 * a0_0).toNat).getD (a2 % a0_0).toNat 0 = y2 at hz3
          have HY1 := Aside0.mk hy1
          have HY2 := Aside0.mk hy2
          clear hy1 hy2
          go_wp2_with fail
          go_quiet (fail)
          go_wp2_with fail
          generalize hS : sums a0_0 gv (2 * a0_0).toNat = S at *
          have HL : Aside0 (S.length = (2 * a0_0 + 1).toNat) := ⟨by rw [← hS, sums_length]⟩
          have HSS := Aside0.mk hS
          clear hS
          go_loopw [14, 79] (fun v14 v79 wq => ∃ z : Int, v79 = .int .u64 z ∧ v14 = .int .u64 (leastB S (a2 % a0_0).toNat z.toNat) ∧ Aside0 (0 ≤ z ∧ z ≤ a0_0) ∧ Aside0 (Below w.heap.size w wq) ∧ Aside0 (HasArr (Value.int .u64) 22 w2.heap.size S wq) ∧ Aside0 (wq.heap[w.heap.size]? = some (.cells #[.int .u64 a0_0, .slice A0_1 l0_1.length c0_1] 25 (0, 0)))) (fun _ v79 _ => a0_0.toNat - (intOf v79).toNat)
          case atStart => exact ⟨0, rfl, by show _ = Value.int .u64 (S.getD _ 0); rw [HY2.out], ⟨by omega⟩, ⟨pw_below_drewN HB.out _⟩, ⟨HasArr.drewN HS.out _⟩, ⟨blk_drewN HBX.out _⟩⟩
          case round =>
            clear hz0 hz1 hz2 hz3 HB HV HA HS HBX HX
            obtain ⟨z, rfl, rfl, HZ, HB, HS, HBX⟩ := hrel
            by_cases hlt2 : z < a0_0
            · have z0 : 0 ≤ z := HZ.out.1
              have hz2 := HS.out.cell 0 z.toNat (by rw [HL.out]; omega)
              have hz3 := HS.out.cell 0 (z + a2 % a0_0).toNat (by rw [HL.out]; omega)
              have b1 : z < ((2 * a0_0 + 1).toNat : Int) := by omega
              have b2 : z + a2 % a0_0 < ((2 * a0_0 + 1).toNat : Int) := by omega
              have b3 : 0 ≤ z + a2 % a0_0 := by omega
              have b4 : z + a2 % a0_0 ≤ 131072 := by omega
              have e1 : (z + a2 % a0_0).toNat = z.toNat + (a2 % a0_0).toNat := by omega
              have HL2 : Aside0 (leastB S (a2 % a0_0).toNat (z + 1).toNat = mn (leastB S (a2 % a0_0).toNat z.toNat) (IntKind.u64.wrap (S.getD (z + a2 % a0_0).toNat 0 - S.getD z.toNat 0))) := ⟨by rw [toNat1 z0, leastB, e1]⟩
              generalize hq1 : S.getD z.toNat 0 = y3 at hz2 HL2
              generalize hq2 : S.getD (z + a2 % a0_0).toNat 0 = y4 at hz3 HL2
              generalize hq3 : leastB S (a2 % a0_0).toNat z.toNat = y5 at *
              clear hq1 hq2 hq3 e1
              by_cases hmn : IntKind.u64.wrap (y4 - y3) < y5
              · have e2 : mn y5 (IntKind.u64.wrap (y4 - y3)) = IntKind.u64.wrap (y4 - y3) := if_pos hmn
                rw [e2] at HL2
                clear e2
                go_wp2_with fail
                go_quiet (fail)
                go_wp2_with fail
                go_roundw
                case rel => exact ⟨z + 1, rfl, by rw [HL2.out], ⟨by omega⟩, ⟨pw_below_drewN HB.out _⟩, ⟨HasArr.drewN HS.out _⟩, ⟨blk_drewN HBX.out _⟩⟩
                case measure => simp [intOf]; omega
              · have e2 : mn y5 (IntKind.u64.wrap (y4 - y3)) = y5 := if_neg hmn
                rw [e2] at HL2
                clear e2
                go_wp2_with fail
                go_quiet (fail)
                go_wp2_with fail
                go_roundw
                case rel => exact ⟨z + 1, rfl, by rw [HL2.out], ⟨by omega⟩, ⟨pw_below_drewN HB.out _⟩, ⟨HasArr.drewN HS.out _⟩, ⟨blk_drewN HBX.out _⟩⟩
                case measure => simp [intOf]; omega
            · have hx : z = a0_0 := by have := HZ.out; omega
              have HZZ := Aside0.mk hx
              clear hx
              go_wp2_with fail
              go_ret2
              refine ⟨?_, HB.out⟩
              unfold supplyV
              rw [HGV.out, HSS.out, HY1.out, HZZ.out]
              rfl
    · rw [if_neg hok] at hmr
      cases hmr
  · rw [if_neg c] at hmr
    have c0 : (m != 0) = true := bne_iff_ne.mpr c
    have c1 : (m == 0) = false := beq_eq_false_iff_ne.mpr c
    clear c
    obtain ⟨rfl, rfl⟩ := Prod.mk.inj (Option.some.inj hmr)
    go_enter Try.func29, Try.ntmps29
    go_wp2_with fail
    refine (table_may.calls k a0_0 _ _ l0_1 0 a1 m _ (Kd.C_alloc HR.out _) HC.out HM.out).mono ?_
    rintro e w1 ⟨rfl, hb⟩
    have HB1 := Aside0.mk (below_step (below_alloc (Below.refl w.heap.size w) _) hb)
    clear hb
    go_wp2
    go_ret2
    exact ⟨rfl, HB1.out⟩
end Go.Proofs.Ytiacikmignjdoaa.QTableAdds

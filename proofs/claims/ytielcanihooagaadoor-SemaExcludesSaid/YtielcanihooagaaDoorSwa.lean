/- Waits: of one who stands in no queue. Conditions: each theorem's own. -/
import Derived.Test.YtielcanihooagaaDoorEf
import Derived.Test.YtielcanihooagaaDoorPSemaExcludesx2
set_option linter.unusedVariables false
set_option linter.unusedSimpArgs false
namespace Go.Proofs.YtielcanihooagaaDoor.PSemaExcludes
open Go.RowKit Go.Proofs.YtielcanihooagaaDoor.Ef Go.Proofs.YtielcanihooagaaDoor.Mp Go.Proofs.YtielcanihooagaaDoorW.PrintWords Go.Proofs.YtielcanihooagaaDoorW.PrintLast Go.Proofs.YtielcanihooagaaDoorW.PrintMore
attribute [local go_sem high] eqA34

set_option maxHeartbeats 4000000 in
set_option maxRecDepth 100000 in
theorem cloL_calls (x : S83) (g3 : Nat) (a b : Int) (w : World) (h0 : w.cell? ⟨g3, 0, none⟩ = some (.int .i64 a)) (h1 : w.cell? ⟨g3, 1, none⟩ = some (.int .i64 b)) (hne : (x.f0.f0 == a && x.f0.f1 == b) = false) :
    Calls Tryd.prog 72 #[.agg #[.int .i64 x.f0.f0, .int .i64 x.f0.f1, .bool x.f1], .pointer (some ⟨g3, 0, none⟩)] w fun e w' => e = .returned (.bool false) ∧ Below w.heap.size w w' := by
  have hlt := World.block_lt_of_cell? w _ h0
  have hu34 := Tryd.underlying34
  obtain ⟨r, hr⟩ : ∃ r, (x.f0.f0 == a && x.f0.f1 == b) = r := ⟨_, rfl⟩
  go_enter Tryd.func72, Tryd.ntmps72
  go_wp2_with ((with_reducible refine gate_dst (N := 2) rfl ?_); refine box_event ?hg (N := 2) ?hd (cs := #[.int .i64 x.f0.f0, .int .i64 x.f0.f1, .bool x.f1]) (t := 83) ?hr ?_; (case hd => rfl); (case hg => rfl); (case hr => first | (go_simp; done) | (go_simp; rfl)); intro g2 hg2 w1 hbox hb; have HB := Aside0.mk hb; have x0 : w1.cell? ⟨g2, 0, none⟩ = some (.int .i64 x.f0.f0) := (blk_cell hbox 0).trans rfl; have x1 : w1.cell? ⟨g2, 1, none⟩ = some (.int .i64 x.f0.f1) := (blk_cell hbox 1).trans rfl; have x2 : w1.cell? ⟨g2, 2, none⟩ = some (.bool x.f1) := (blk_cell hbox 2).trans rfl; have y0 : w1.cell? ⟨g3, 0, none⟩ = some (.int .i64 a) := (hb.cell (p := ⟨g3, 0, none⟩) hlt).trans h0; have y1 : w1.cell? ⟨g3, 1, none⟩ = some (.int .i64 b) := (hb.cell (p := ⟨g3, 1, none⟩) hlt).trans h1; clear hb hbox hg2 h0 h1)
  go_ret
  exact ⟨rfl, HB.out⟩
set_option maxHeartbeats 4000000 in
set_option maxRecDepth 100000 in
theorem idxL_calls (A : Option Addr) (c : Nat) (l : List S83) (g3 : Nat) (a b : Int) (w : World) (H : Kd.C k83 w A l.length l) (hc : l.length ≤ c) (h0 : w.cell? ⟨g3, 0, none⟩ = some (.int .i64 a)) (h1 : w.cell? ⟨g3, 1, none⟩ = some (.int .i64 b)) (hne : ∀ x ∈ l, (x.f0.f0 == a && x.f0.f1 == b) = false) :
    Calls Tryd.prog 85 #[.slice A l.length c, .func (.func 72) #[] #[.pointer (some ⟨g3, 0, none⟩)]] w fun e w' => e = .returned (.int .i64 (-1)) ∧ Below w.heap.size w w' := by
  have hlt := World.block_lt_of_cell? w _ h0
  have hmx : l.length ≤ 9223372036854775807 := Kd.C_max H
  have HR := Aside0.mk H
  have HX := Aside0.mk (And.intro h0 h1)
  have HN := Aside0.mk hne
  clear H h0 h1 hne
  go_enter Tryd.func85, Tryd.ntmps85
  go_wp2
  go_loopw [5, 8] (fun v5 v8 wr => ∃ i : Nat, v8 = .int .i64 (i : Int) ∧ Aside0 (i ≤ l.length) ∧ Aside0 (Below w.heap.size w wr)) (fun _ v8 _ => (l.length + 1 - (intOf v8).toNat))
  case atStart => exact ⟨0, rfl, ⟨Nat.zero_le _⟩, ⟨Below.refl _ _⟩⟩
  case round =>
    obtain ⟨i, rfl, HI, HB1⟩ := hrel
    by_cases hin' : (i : Int) < (l.length : Int)
    · have hin : i < l.length := by omega
      have hin0 : (0 : Int) ≤ (i : Int) := by omega
      obtain ⟨ad, hA, hx0, hx1, hx2⟩ := at_T83 (Kd.C_below HR.out HB1.out) (i : Int) hin0 hin'
      subst hA
      have hq := HN.out (rd_T83 l (i : Int)) (by simp [rd_T83, hin])
      generalize rd_T83 l (i : Int) = x at hx0 hx1 hx2 hq
      simp only [Int.toNat_natCast] at hx0 hx1 hx2
      have y0 : wr.cell? ⟨g3, 0, none⟩ = some (.int .i64 a) := (HB1.out.cell (p := ⟨g3, 0, none⟩) hlt).trans HX.out.1
      have y1 : wr.cell? ⟨g3, 1, none⟩ = some (.int .i64 b) := (HB1.out.cell (p := ⟨g3, 1, none⟩) hlt).trans HX.out.2
      have HC := Aside0.mk (cloL_calls x g3 a b wr y0 y1 hq)
      clear hq y0 y1
      go_wp2_with (go_at_call 72; (refine HC.out.mono ?_); rintro e w2 ⟨rfl, hb⟩; have HB2 := Aside0.mk (HB1.out.trans (below_up hb HB1.out.size)); clear hb hx0 hx1 hx2)
      go_roundw
      case rel => exact ⟨i + 1, by go_num, ⟨by omega⟩, HB2⟩
      case measure => simp [intOf]; omega
    · go_wp2
      go_ret
      exact ⟨rfl, HB1.out⟩
theorem contL_calls (A : Option Addr) (c : Nat) (l : List S83) (g3 : Nat) (a b : Int) (w : World) (H : Kd.C k83 w A l.length l) (hc : l.length ≤ c) (h0 : w.cell? ⟨g3, 0, none⟩ = some (.int .i64 a)) (h1 : w.cell? ⟨g3, 1, none⟩ = some (.int .i64 b)) (hne : ∀ x ∈ l, (x.f0.f0 == a && x.f0.f1 == b) = false) :
    Calls Tryd.prog 81 #[.slice A l.length c, .func (.func 72) #[] #[.pointer (some ⟨g3, 0, none⟩)]] w fun e w' => e = .returned (.bool false) ∧ Below w.heap.size w w' := by
  have HC := Aside0.mk (idxL_calls A c l g3 a b w H hc h0 h1 hne)
  clear H h0 h1 hne
  go_enter Tryd.func81, Tryd.ntmps81
  go_wp2_with (go_at_call 85; (refine HC.out.mono ?_); rintro e w2 ⟨rfl, hb⟩; have HB := Aside0.mk hb; clear hb)
  go_ret
  exact ⟨rfl, HB.out⟩
theorem hasL_calls (gb off : Nat) (A : Option Addr) (c : Nat) (l : List S83) (g3 : Nat) (a b : Int) (w : World) (hq : w.cell? ⟨gb, off, none⟩ = some (.slice A l.length c)) (H : Kd.C k83 w A l.length l) (hc : l.length ≤ c) (h0 : w.cell? ⟨g3, 0, none⟩ = some (.int .i64 a)) (h1 : w.cell? ⟨g3, 1, none⟩ = some (.int .i64 b)) (hne : ∀ x ∈ l, (x.f0.f0 == a && x.f0.f1 == b) = false) :
    Calls Tryd.prog 71 #[.pointer (some ⟨gb, off, none⟩), .func (.func 72) #[] #[.pointer (some ⟨g3, 0, none⟩)]] w fun e w' => e = .returned (.bool false) ∧ Below w.heap.size w w' := by
  have HC := Aside0.mk (contL_calls A c l g3 a b w H hc h0 h1 hne)
  have hu := Tryd.underlying77
  clear H h0 h1 hne
  go_enter Tryd.func71, Tryd.ntmps71
  go_wp2_with (go_at_call 81; (refine HC.out.mono ?_); rintro e w2 ⟨rfl, hb⟩; have HB := Aside0.mk hb; clear hb)
  go_ret
  exact ⟨rfl, HB.out⟩
set_option maxHeartbeats 4000000 in
set_option maxRecDepth 100000 in
theorem cloC_calls (x : S93) (g3 : Nat) (a b : Int) (w : World) (h0 : w.cell? ⟨g3, 0, none⟩ = some (.int .i64 a)) (h1 : w.cell? ⟨g3, 1, none⟩ = some (.int .i64 b)) (hne : (x.f0.f0 == a && x.f0.f1 == b) = false) :
    Calls Tryd.prog 74 #[.agg #[.int .i64 x.f0.f0, .int .i64 x.f0.f1, .int .i64 x.f1], .pointer (some ⟨g3, 0, none⟩)] w fun e w' => e = .returned (.bool false) ∧ Below w.heap.size w w' := by
  have hlt := World.block_lt_of_cell? w _ h0
  have hu34 := Tryd.underlying34
  obtain ⟨r, hr⟩ : ∃ r, (x.f0.f0 == a && x.f0.f1 == b) = r := ⟨_, rfl⟩
  go_enter Tryd.func74, Tryd.ntmps74
  go_wp2_with ((with_reducible refine gate_dst (N := 2) rfl ?_); refine box_event ?hg (N := 2) ?hd (cs := #[.int .i64 x.f0.f0, .int .i64 x.f0.f1, .int .i64 x.f1]) (t := 93) ?hr ?_; (case hd => rfl); (case hg => rfl); (case hr => first | (go_simp; done) | (go_simp; rfl)); intro g2 hg2 w1 hbox hb; have HB := Aside0.mk hb; have x0 : w1.cell? ⟨g2, 0, none⟩ = some (.int .i64 x.f0.f0) := (blk_cell hbox 0).trans rfl; have x1 : w1.cell? ⟨g2, 1, none⟩ = some (.int .i64 x.f0.f1) := (blk_cell hbox 1).trans rfl; have x2 : w1.cell? ⟨g2, 2, none⟩ = some (.int .i64 x.f1) := (blk_cell hbox 2).trans rfl; have y0 : w1.cell? ⟨g3, 0, none⟩ = some (.int .i64 a) := (hb.cell (p := ⟨g3, 0, none⟩) hlt).trans h0; have y1 : w1.cell? ⟨g3, 1, none⟩ = some (.int .i64 b) := (hb.cell (p := ⟨g3, 1, none⟩) hlt).trans h1; clear hb hbox hg2 h0 h1)
  go_ret
  exact ⟨rfl, HB.out⟩
set_option maxHeartbeats 4000000 in
set_option maxRecDepth 100000 in
theorem idxC_calls (A : Option Addr) (c : Nat) (l : List S93) (g3 : Nat) (a b : Int) (w : World) (H : Kd.C k93 w A l.length l) (hc : l.length ≤ c) (h0 : w.cell? ⟨g3, 0, none⟩ = some (.int .i64 a)) (h1 : w.cell? ⟨g3, 1, none⟩ = some (.int .i64 b)) (hne : ∀ x ∈ l, (x.f0.f0 == a && x.f0.f1 == b) = false) :
    Calls Tryd.prog 86 #[.slice A l.length c, .func (.func 74) #[] #[.pointer (some ⟨g3, 0, none⟩)]] w fun e w' => e = .returned (.int .i64 (-1)) ∧ Below w.heap.size w w' := by
  have hlt := World.block_lt_of_cell? w _ h0
  have hmx : l.length ≤ 9223372036854775807 := Kd.C_max H
  have HR := Aside0.mk H
  have HX := Aside0.mk (And.intro h0 h1)
  have HN := Aside0.mk hne
  clear H h0 h1 hne
  go_enter Tryd.func86, Tryd.ntmps86
  go_wp2
  go_loopw [5, 8] (fun v5 v8 wr => ∃ i : Nat, v8 = .int .i64 (i : Int) ∧ Aside0 (i ≤ l.length) ∧ Aside0 (Below w.heap.size w wr)) (fun _ v8 _ => (l.length + 1 - (intOf v8).toNat))
  case atStart => exact ⟨0, rfl, ⟨Nat.zero_le _⟩, ⟨Below.refl _ _⟩⟩
  case round =>
    obtain ⟨i, rfl, HI, HB1⟩ := hrel
    by_cases hin' : (i : Int) < (l.length : Int)
    · have hin : i < l.length := by omega
      have hin0 : (0 : Int) ≤ (i : Int) := by omega
      obtain ⟨ad, hA, hx0, hx1, hx2⟩ := at_T93 (Kd.C_below HR.out HB1.out) (i : Int) hin0 hin'
      subst hA
      have hq := HN.out (rd_T93 l (i : Int)) (by simp [rd_T93, hin])
      generalize rd_T93 l (i : Int) = x at hx0 hx1 hx2 hq
      simp only [Int.toNat_natCast] at hx0 hx1 hx2
      have y0 : wr.cell? ⟨g3, 0, none⟩ = some (.int .i64 a) := (HB1.out.cell (p := ⟨g3, 0, none⟩) hlt).trans HX.out.1
      have y1 : wr.cell? ⟨g3, 1, none⟩ = some (.int .i64 b) := (HB1.out.cell (p := ⟨g3, 1, none⟩) hlt).trans HX.out.2
      have HC := Aside0.mk (cloC_calls x g3 a b wr y0 y1 hq)
      clear hq y0 y1
      go_wp2_with (go_at_call 74; (refine HC.out.mono ?_); rintro e w2 ⟨rfl, hb⟩; have HB2 := Aside0.mk (HB1.out.trans (below_up hb HB1.out.size)); clear hb hx0 hx1 hx2)
      go_roundw
      case rel => exact ⟨i + 1, by go_num, ⟨by omega⟩, HB2⟩
      case measure => simp [intOf]; omega
    · go_wp2
      go_ret
      exact ⟨rfl, HB1.out⟩
theorem contC_calls (A : Option Addr) (c : Nat) (l : List S93) (g3 : Nat) (a b : Int) (w : World) (H : Kd.C k93 w A l.length l) (hc : l.length ≤ c) (h0 : w.cell? ⟨g3, 0, none⟩ = some (.int .i64 a)) (h1 : w.cell? ⟨g3, 1, none⟩ = some (.int .i64 b)) (hne : ∀ x ∈ l, (x.f0.f0 == a && x.f0.f1 == b) = false) :
    Calls Tryd.prog 82 #[.slice A l.length c, .func (.func 74) #[] #[.pointer (some ⟨g3, 0, none⟩)]] w fun e w' => e = .returned (.bool false) ∧ Below w.heap.size w w' := by
  have HC := Aside0.mk (idxC_calls A c l g3 a b w H hc h0 h1 hne)
  clear H h0 h1 hne
  go_enter Tryd.func82, Tryd.ntmps82
  go_wp2_with (go_at_call 86; (refine HC.out.mono ?_); rintro e w2 ⟨rfl, hb⟩; have HB := Aside0.mk hb; clear hb)
  go_ret
  exact ⟨rfl, HB.out⟩
theorem hasC_calls (gb off : Nat) (A : Option Addr) (c : Nat) (l : List S93) (g3 : Nat) (a b : Int) (w : World) (hq : w.cell? ⟨gb, off, none⟩ = some (.slice A l.length c)) (H : Kd.C k93 w A l.length l) (hc : l.length ≤ c) (h0 : w.cell? ⟨g3, 0, none⟩ = some (.int .i64 a)) (h1 : w.cell? ⟨g3, 1, none⟩ = some (.int .i64 b)) (hne : ∀ x ∈ l, (x.f0.f0 == a && x.f0.f1 == b) = false) :
    Calls Tryd.prog 73 #[.pointer (some ⟨gb, off, none⟩), .func (.func 74) #[] #[.pointer (some ⟨g3, 0, none⟩)]] w fun e w' => e = .returned (.bool false) ∧ Below w.heap.size w w' := by
  have HC := Aside0.mk (contC_calls A c l g3 a b w H hc h0 h1 hne)
  have hu := Tryd.underlying95
  clear H h0 h1 hne
  go_enter Tryd.func73, Tryd.ntmps73
  go_wp2_with (go_at_call 82; (refine HC.out.mono ?_); rintro e w2 ⟨rfl, hb⟩; have HB := Aside0.mk hb; clear hb)
  go_ret
  exact ⟨rfl, HB.out⟩
set_option maxHeartbeats 4000000 in
set_option maxRecDepth 100000 in
theorem cloG_calls (x : S34) (g3 : Nat) (a b : Int) (w : World) (h0 : w.cell? ⟨g3, 0, none⟩ = some (.int .i64 a)) (h1 : w.cell? ⟨g3, 1, none⟩ = some (.int .i64 b)) (hne : (x.f0 == a && x.f1 == b) = false) :
    Calls Tryd.prog 70 #[.agg #[.int .i64 x.f0, .int .i64 x.f1], .pointer (some ⟨g3, 0, none⟩)] w fun e w' => e = .returned (.bool false) ∧ Below w.heap.size w w' := by
  have hlt := World.block_lt_of_cell? w _ h0
  have hu34 := Tryd.underlying34
  obtain ⟨r, hr⟩ : ∃ r, (x.f0 == a && x.f1 == b) = r := ⟨_, rfl⟩
  go_enter Tryd.func70, Tryd.ntmps70
  go_wp2_with ((with_reducible refine gate_dst (N := 2) rfl ?_); refine box_event ?hg (N := 2) ?hd (cs := #[.int .i64 x.f0, .int .i64 x.f1]) (t := 34) ?hr ?_; (case hd => rfl); (case hg => rfl); (case hr => first | (go_simp; done) | (go_simp; rfl)); intro g2 hg2 w1 hbox hb; have HB := Aside0.mk hb; have x0 : w1.cell? ⟨g2, 0, none⟩ = some (.int .i64 x.f0) := (blk_cell hbox 0).trans rfl; have x1 : w1.cell? ⟨g2, 1, none⟩ = some (.int .i64 x.f1) := (blk_cell hbox 1).trans rfl; have y0 : w1.cell? ⟨g3, 0, none⟩ = some (.int .i64 a) := (hb.cell (p := ⟨g3, 0, none⟩) hlt).trans h0; have y1 : w1.cell? ⟨g3, 1, none⟩ = some (.int .i64 b) := (hb.cell (p := ⟨g3, 1, none⟩) hlt).trans h1; clear hb hbox hg2 h0 h1)
  go_ret
  exact ⟨rfl, HB.out⟩
set_option maxHeartbeats 4000000 in
set_option maxRecDepth 100000 in
theorem idxG_calls (A : Option Addr) (c : Nat) (l : List S34) (g3 : Nat) (a b : Int) (w : World) (H : Kd.C k34 w A l.length l) (hc : l.length ≤ c) (h0 : w.cell? ⟨g3, 0, none⟩ = some (.int .i64 a)) (h1 : w.cell? ⟨g3, 1, none⟩ = some (.int .i64 b)) (hne : ∀ x ∈ l, (x.f0 == a && x.f1 == b) = false) :
    Calls Tryd.prog 87 #[.slice A l.length c, .func (.func 70) #[] #[.pointer (some ⟨g3, 0, none⟩)]] w fun e w' => e = .returned (.int .i64 (-1)) ∧ Below w.heap.size w w' := by
  have hlt := World.block_lt_of_cell? w _ h0
  have hmx : l.length ≤ 9223372036854775807 := Kd.C_max H
  have HR := Aside0.mk H
  have HX := Aside0.mk (And.intro h0 h1)
  have HN := Aside0.mk hne
  clear H h0 h1 hne
  go_enter Tryd.func87, Tryd.ntmps87
  go_wp2
  go_loopw [5, 8] (fun v5 v8 wr => ∃ i : Nat, v8 = .int .i64 (i : Int) ∧ Aside0 (i ≤ l.length) ∧ Aside0 (Below w.heap.size w wr)) (fun _ v8 _ => (l.length + 1 - (intOf v8).toNat))
  case atStart => exact ⟨0, rfl, ⟨Nat.zero_le _⟩, ⟨Below.refl _ _⟩⟩
  case round =>
    obtain ⟨i, rfl, HI, HB1⟩ := hrel
    by_cases hin' : (i : Int) < (l.length : Int)
    · have hin : i < l.length := by omega
      have hin0 : (0 : Int) ≤ (i : Int) := by omega
      obtain ⟨ad, hA, hx0, hx1⟩ := at_T34 (Kd.C_below HR.out HB1.out) (i : Int) hin0 hin'
      subst hA
      have hq := HN.out (rd_T34 l (i : Int)) (by simp [rd_T34, hin])
      generalize rd_T34 l (i : Int) = x at hx0 hx1 hq
      simp only [Int.toNat_natCast] at hx0 hx1
      have y0 : wr.cell? ⟨g3, 0, none⟩ = some (.int .i64 a) := (HB1.out.cell (p := ⟨g3, 0, none⟩) hlt).trans HX.out.1
      have y1 : wr.cell? ⟨g3, 1, none⟩ = some (.int .i64 b) := (HB1.out.cell (p := ⟨g3, 1, none⟩) hlt).trans HX.out.2
      have HC := Aside0.mk (cloG_calls x g3 a b wr y0 y1 hq)
      clear hq y0 y1
      go_wp2_with (go_at_call 70; (refine HC.out.mono ?_); rintro e w2 ⟨rfl, hb⟩; have HB2 := Aside0.mk (HB1.out.trans (below_up hb HB1.out.size)); clear hb hx0 hx1)
      go_roundw
      case rel => exact ⟨i + 1, by go_num, ⟨by omega⟩, HB2⟩
      case measure => simp [intOf]; omega
    · go_wp2
      go_ret
      exact ⟨rfl, HB1.out⟩
theorem contG_calls (A : Option Addr) (c : Nat) (l : List S34) (g3 : Nat) (a b : Int) (w : World) (H : Kd.C k34 w A l.length l) (hc : l.length ≤ c) (h0 : w.cell? ⟨g3, 0, none⟩ = some (.int .i64 a)) (h1 : w.cell? ⟨g3, 1, none⟩ = some (.int .i64 b)) (hne : ∀ x ∈ l, (x.f0 == a && x.f1 == b) = false) :
    Calls Tryd.prog 83 #[.slice A l.length c, .func (.func 70) #[] #[.pointer (some ⟨g3, 0, none⟩)]] w fun e w' => e = .returned (.bool false) ∧ Below w.heap.size w w' := by
  have HC := Aside0.mk (idxG_calls A c l g3 a b w H hc h0 h1 hne)
  clear H h0 h1 hne
  go_enter Tryd.func83, Tryd.ntmps83
  go_wp2_with (go_at_call 87; (refine HC.out.mono ?_); rintro e w2 ⟨rfl, hb⟩; have HB := Aside0.mk hb; clear hb)
  go_ret
  exact ⟨rfl, HB.out⟩
theorem hasG_calls (gb off : Nat) (A : Option Addr) (c : Nat) (l : List S34) (g3 : Nat) (a b : Int) (w : World) (hq : w.cell? ⟨gb, off, none⟩ = some (.slice A l.length c)) (H : Kd.C k34 w A l.length l) (hc : l.length ≤ c) (h0 : w.cell? ⟨g3, 0, none⟩ = some (.int .i64 a)) (h1 : w.cell? ⟨g3, 1, none⟩ = some (.int .i64 b)) (hne : ∀ x ∈ l, (x.f0 == a && x.f1 == b) = false) :
    Calls Tryd.prog 75 #[.pointer (some ⟨gb, off, none⟩), .func (.func 70) #[] #[.pointer (some ⟨g3, 0, none⟩)]] w fun e w' => e = .returned (.bool false) ∧ Below w.heap.size w w' := by
  have HC := Aside0.mk (contG_calls A c l g3 a b w H hc h0 h1 hne)
  have hu := Tryd.underlying67
  clear H h0 h1 hne
  go_enter Tryd.func75, Tryd.ntmps75
  go_wp2_with (go_at_call 83; (refine HC.out.mono ?_); rintro e w2 ⟨rfl, hb⟩; have HB := Aside0.mk hb; clear hb)
  go_ret
  exact ⟨rfl, HB.out⟩
end Go.Proofs.YtielcanihooagaaDoor.PSemaExcludes

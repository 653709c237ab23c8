/- Waits and late: of one who stands in no queue, and of a number that there is. Conditions: each theorem's own. -/
import Derived.Test.YtielcanihooagaaDoorSst
set_option linter.unusedVariables false
set_option linter.unusedSimpArgs false
namespace Go.Proofs.YtielcanihooagaaDoor.PSemaExcludes
open Go.RowKit Go.Proofs.YtielcanihooagaaDoor.Ef Go.Proofs.YtielcanihooagaaDoor.Mp Go.Proofs.YtielcanihooagaaDoorW.PrintWords Go.Proofs.YtielcanihooagaaDoorW.PrintLast Go.Proofs.YtielcanihooagaaDoorW.PrintMore

set_option maxHeartbeats 4000000 in
set_option maxRecDepth 100000 in
theorem waits_calls {base s : Nat} {B : Bk} {nl : Nat} {vl : Value} {lo : Bool} {rd : Int} {ns : Nat} {vs : Value} {cnt : Int} (ql : List S83) (qs : List S34) (a b : Int) (w : World) (h : SA w base s B nl vl lo rd ns vs cnt) (hq : Ln w vl vs ql qs) (h1 : ∀ x ∈ ql, (x.f0.f0 == a && x.f0.f1 == b) = false) (h2 : ∀ x ∈ qs, (x.f0 == a && x.f1 == b) = false) :
    Calls Tryd.prog 55 #[.pointer (some ⟨s, 0, none⟩), .agg #[.int .i64 a, .int .i64 b]] w fun e w' => e = .returned (.bool false) ∧ Below w.heap.size w w' := by
  have HS := Aside0.mk h
  have HQ := Aside0.mk hq
  have H1 := Aside0.mk h1
  have H2 := Aside0.mk h2
  have hu63 := Tryd.underlying63
  have hu79 := Tryd.underlying79
  have hu69 := Tryd.underlying69
  have hu97 := Tryd.underlying97
  clear h hq h1 h2
  go_enter Tryd.func55, Tryd.ntmps55
  go_wp2_with (first
    | ((with_reducible refine gate_dst (N := 3) rfl ?_); refine box_event ?hg (N := 3) ?hd (cs := #[.int .i64 a, .int .i64 b]) (t := 34) ?hr ?_; (case hd => rfl); (case hg => rfl); (case hr => first | (go_simp; done) | (go_simp; rfl)); intro g3 hg3 w1 hbox hb; have HB1 := Aside0.mk hb; have B3 := Aside0.mk hbox; have HS1 := Aside0.mk (HS.out.below hb); have HQ1 := Aside0.mk (HQ.out.below hb); clear hb hbox hg3)
    | (go_at_call 37; (refine (is_calls _ HS1.out).mono ?_); rintro e w2 ⟨rfl, hb⟩; have HB2 := Aside0.mk (below_step HB1.out hb); have B32 := Aside0.mk (blk_below B3.out hb); have HS2 := Aside0.mk (HS1.out.below hb); have HQ2 := Aside0.mk (HQ1.out.below hb); clear hb HB1 HS1 HQ1))
  clear HS HQ
  go_loopw [10] (fun v10 wr => ∃ i : Nat, v10 = .int .i64 (i : Int) ∧ Aside0 (i ≤ 256) ∧ Aside0 (Below w2.heap.size w2 wr)) (fun v10 _ => 257 - (intOf v10).toNat)
  case atStart => exact ⟨0, rfl, ⟨Nat.zero_le _⟩, ⟨Below.refl _ _⟩⟩
  case round =>
    obtain ⟨i, rfl, HI, HBr⟩ := hrel
    by_cases hlt : (i : Int) < (256 : Int)
    · have hin : i < 256 := by omega
      have h0 : (0 : Int) ≤ (i : Int) := by omega
      obtain ⟨⟨A1, c1, l1, q1, k1, C1, n1⟩, qg, qc, ⟨A4, c4, l4, q4, k4, C4, n4⟩⟩ := (HS2.out.below HBr.out).lines (HQ2.out.below HBr.out) H1.out H2.out hin
      have B3r := Aside0.mk (blk_below B32.out HBr.out)
      have g0 : wr.cell? ⟨g3, 0, none⟩ = some (.int .i64 a) := (blk_cell B3r.out 0).trans rfl
      have g1 : wr.cell? ⟨g3, 1, none⟩ = some (.int .i64 b) := (blk_cell B3r.out 1).trans rfl
      have mv : ∀ {W : World}, Below wr.heap.size wr W → ∀ {b o : Nat} {u : Value}, wr.cell? ⟨b, o, none⟩ = some u → W.cell? ⟨b, o, none⟩ = some u := fun hb _ _ _ hc => (hb.cell (World.block_lt_of_cell? _ _ hc)).trans hc
      have KL := Aside0.mk (fun W (hb : Below wr.heap.size wr W) => hasL_calls B.l (i * 3) A1 c1 l1 g3 a b W (mv hb q1) (Kd.C_below C1 hb) k1 (mv hb g0) (mv hb g1) n1)
      have KC := Aside0.mk (fun W (hb : Below wr.heap.size wr W) => hasC_calls B.c i none 0 [] g3 a b W (mv hb qc) (Kd.C_nil _ _) (Nat.le_refl _) (mv hb g0) (mv hb g1) (fun x hx => by cases hx))
      have KG := Aside0.mk (fun W (hb : Below wr.heap.size wr W) => hasG_calls B.g (i * 2) none 0 [] g3 a b W (mv hb qg) (Kd.C_nil _ _) (Nat.le_refl _) (mv hb g0) (mv hb g1) (fun x hx => by cases hx))
      have KS := Aside0.mk (fun W (hb : Below wr.heap.size wr W) => hasG_calls B.s (i * 2) A4 c4 l4 g3 a b W (mv hb q4) (Kd.C_below C4 hb) k4 (mv hb g0) (mv hb g1) n4)
      have HSr := Aside0.mk (HS2.out.below HBr.out)
      have s0 : wr.cell? ⟨s, 0, none⟩ = some (.slice (some ⟨B.l, 0, none⟩) 256 256) := (blk_cell HSr.out.blk 0).trans rfl
      have TK := Aside0.mk trivial
      clear q1 qg qc q4 C1 C4 n1 n4 g0 g1 mv
      go_wp2_with (first
        | (go_at_call 71; (refine (KL.out _ (Below.refl _ _)).mono ?_); rintro e w4 ⟨rfl, hb⟩; have HB4 := Aside0.mk hb; clear hb s0; have s2 : w4.cell? ⟨s, 2, none⟩ = some (.slice (some ⟨B.c, 0, none⟩) 256 256) := (blk_cell (blk_below HSr.out.blk HB4.out) 2).trans rfl)
        | (go_at_call 73; (refine (KC.out _ HB4.out).mono ?_); rintro e w5 ⟨rfl, hb⟩; have HB5 := Aside0.mk (below_step HB4.out hb); clear hb s2 HB4; have s1 : w5.cell? ⟨s, 1, none⟩ = some (.slice (some ⟨B.g, 0, none⟩) 256 256) := (blk_cell (blk_below HSr.out.blk HB5.out) 1).trans rfl)
        | (go_at_call 75; clear TK; (refine (KG.out _ HB5.out).mono ?_); rintro e w6 ⟨rfl, hb⟩; have HB6 := Aside0.mk (below_step HB5.out hb); clear hb s1 HB5; have s3 : w6.cell? ⟨s, 3, none⟩ = some (.slice (some ⟨B.s, 0, none⟩) 256 256) := (blk_cell (blk_below HSr.out.blk HB6.out) 3).trans rfl)
        | (go_at_call 75; (refine (KS.out _ HB6.out).mono ?_); rintro e w7 ⟨rfl, hb⟩; have HB7 := Aside0.mk (HBr.out.trans (below_up (below_step HB6.out hb) HBr.out.size)); clear hb s3 HB6))
      go_roundw
      case rel => exact ⟨i + 1, by go_num, ⟨by omega⟩, HB7⟩
      case measure => simp [intOf]; omega
    · go_wp2
      go_ret
      exact ⟨rfl, below_step HB2.out HBr.out⟩
/-! ### late -/
set_option maxRecDepth 100000 in
theorem num_calls (n : Int) (w : World) (h0 : 0 ≤ n) (h1 : n < 256) : Calls Tryd.prog 59 #[.int .i64 n] w fun e w' => e = .returned (.bool false) ∧ Below w.heap.size w w' := by
  have HC := Aside0.mk (fun W => sema_number.calls n true W (by unfold sema_number.f; rw [if_pos (by omega), decide_eq_true h1]))
  clear h0 h1
  go_enter Tryd.func59, Tryd.ntmps59
  go_wp2_with (go_at_call 60; (refine (HC.out _).mono ?_); rintro e w2 ⟨rfl, n2, rfl⟩; have HB := Aside0.mk (pw_below_drewN (Below.refl w.heap.size w) n2))
  go_ret
  exact ⟨rfl, HB.out⟩
set_option maxHeartbeats 1000000 in
set_option maxRecDepth 100000 in
theorem idxN_calls (g cap : Nat) (n : Int) (w : World) (h : w.cell? ⟨g, 0, none⟩ = some (.int .i64 n)) (h0 : 0 ≤ n) (h1 : n < 256) : Calls Tryd.prog 76 #[.slice (some ⟨g, 0, none⟩) 1 cap, .func (.func 59) #[] #[]] w fun e w' => e = .returned (.int .i64 (-1)) ∧ Below w.heap.size w w' := by
  have HC := Aside0.mk (fun W => num_calls n W h0 h1)
  have HX := Aside0.mk h
  have hlt := World.block_lt_of_cell? w _ h
  clear h h0 h1
  go_enter Tryd.func76, Tryd.ntmps76
  go_wp2
  go_loopw [5, 8] (fun v5 v8 wr => ∃ i : Nat, v8 = .int .i64 (i : Int) ∧ Aside0 (i ≤ 1) ∧ Aside0 (Below w.heap.size w wr)) (fun _ v8 _ => 2 - (intOf v8).toNat)
  case atStart => exact ⟨0, rfl, ⟨Nat.zero_le _⟩, ⟨Below.refl _ _⟩⟩
  case round =>
    obtain ⟨i, rfl, HI, HB1⟩ := hrel
    by_cases hi : i = 0
    · subst hi
      have hx : wr.cell? ⟨g, 0, none⟩ = some (.int .i64 n) := (HB1.out.cell (p := ⟨g, 0, none⟩) hlt).trans HX.out
      go_wp2_with (go_at_call 59; (refine (HC.out _).mono ?_); rintro e w2 ⟨rfl, hb⟩; have HB2 := Aside0.mk (HB1.out.trans (below_up hb HB1.out.size)); clear hb hx)
      go_roundw
      case rel => exact ⟨1, by go_num, ⟨Nat.le_refl _⟩, HB2⟩
      case measure => simp [intOf]
    · obtain rfl : i = 1 := by have := HI.out; omega
      go_wp2
      go_ret
      exact ⟨rfl, HB1.out⟩
set_option maxRecDepth 100000 in
theorem contN_calls (g cap : Nat) (n : Int) (w : World) (h : w.cell? ⟨g, 0, none⟩ = some (.int .i64 n)) (h0 : 0 ≤ n) (h1 : n < 256) : Calls Tryd.prog 58 #[.slice (some ⟨g, 0, none⟩) 1 cap, .func (.func 59) #[] #[]] w fun e w' => e = .returned (.bool false) ∧ Below w.heap.size w w' := by
  have HC := Aside0.mk (idxN_calls g cap n w h h0 h1)
  clear h h0 h1
  go_enter Tryd.func58, Tryd.ntmps58
  go_wp2_with (go_at_call 76; (refine HC.out.mono ?_); rintro e w2 ⟨rfl, hb⟩; have HB := Aside0.mk hb; clear hb)
  go_ret
  exact ⟨rfl, HB.out⟩
abbrev heldC (wt : Bool) (tr : Int) (vw : Value) : Array Value := #[.bool wt, .int .i64 tr, vw]
set_option maxHeartbeats 4000000 in
set_option maxRecDepth 100000 in
theorem late_calls {base s : Nat} {B : Bk} {nl : Nat} {vl : Value} {lo : Bool} {rd : Int} {ns : Nat} {vs : Value} {cnt : Int} (ql : List S83) (qs : List S34) (a b : Int) (g cap : Nat) (n : Int) (w : World) (h : SA w base s B nl vl lo rd ns vs cnt) (hq : Ln w vl vs ql qs) (h1 : ∀ x ∈ ql, (x.f0.f0 == a && x.f0.f1 == b) = false) (h2 : ∀ x ∈ qs, (x.f0 == a && x.f1 == b) = false) (hg : w.cell? ⟨g, 0, none⟩ = some (.int .i64 n)) (n0 : 0 ≤ n) (n1 : n < 256) :
    Calls Tryd.prog 22 #[.pointer (some ⟨s, 0, none⟩), .agg #[.int .i64 a, .int .i64 b], .slice (some ⟨g, 0, none⟩) 1 cap] w fun e w' => e = .returned (.tuple #[.agg #[.bool false, .int .i64 0, .slice none 0 0], .int .i64 0, .bool true]) ∧ Below w.heap.size w w' := by
  have HS := Aside0.mk h
  have HI := Aside0.mk (fun W (hb : Below w.heap.size w W) => is_calls W (h.below hb))
  have HW := Aside0.mk (fun W (hb : Below w.heap.size w W) => waits_calls ql qs a b W (h.below hb) (hq.below hb) h1 h2)
  have hlt := World.block_lt_of_cell? w _ hg
  have HC := Aside0.mk (fun W (hb : Below w.heap.size w W) => contN_calls g cap n W ((hb.cell (p := ⟨g, 0, none⟩) hlt).trans hg) n0 n1)
  have hu29 := Tryd.underlying29
  clear h hq h1 h2 hg n0 n1
  go_enter Tryd.func22, Tryd.ntmps22
  go_wp2_with (first
    | ((with_reducible refine gate_dst (N := 4) rfl ?_); refine box_event ?hg (N := 4) ?hd (cs := #[.int .i64 a, .int .i64 b]) (t := 34) ?hr ?_; (case hd => rfl); (case hg => rfl); (case hr => first | (go_simp; done) | (go_simp; rfl)); intro g4 hg4 w1 hbox hb; have HB1 := Aside0.mk hb; have B4 := Aside0.mk hbox; clear hb hbox hg4)
    | ((with_reducible refine gate_dst (N := 6) rfl ?_); refine box_event ?hg (N := 6) ?hd (cs := #[.bool false, .int .i64 0, .slice none 0 0]) (t := 29) ?hr ?_; (case hd => rfl); (case hg => rfl); (case hr => first | (go_simp; done) | (go_simp; rfl)); intro g6 hg6 w2 hbox hb; have HE6 := Aside0.mk (show w.heap.size ≤ g6 from by have := HB1.out.size; omega); have HB2 := Aside0.mk (below_step HB1.out hb); have B42 := Aside0.mk (blk_below B4.out hb); have B6 := Aside0.mk hbox; clear hb hbox hg6 HB1 B4)
    | (go_at_call 37; (refine (HI.out _ HB2.out).mono ?_); rintro e w3 ⟨rfl, hb⟩; have HB3 := Aside0.mk (below_step HB2.out hb); have B43 := Aside0.mk (blk_below B42.out hb); have B63 := Aside0.mk (blk_below B6.out hb); clear hb B42 B6; have x0 : w3.cell? ⟨g4, 0, none⟩ = some (.int .i64 a) := (blk_cell B43.out 0).trans rfl; have x1 : w3.cell? ⟨g4, 1, none⟩ = some (.int .i64 b) := (blk_cell B43.out 1).trans rfl)
    | (go_at_call 55; (refine (HW.out _ HB3.out).mono ?_); rintro e w4 ⟨rfl, hb⟩; have HB4 := Aside0.mk (below_step HB3.out hb); have B64 := Aside0.mk (blk_below B63.out hb); clear hb B63 x0 x1)
    | (go_at_call 58; (refine (HC.out _ HB4.out).mono ?_); rintro e w5 ⟨rfl, hb⟩; have HB5 := Aside0.mk (below_step HB4.out hb); have B65 := Aside0.mk (blk_below B64.out hb); clear hb B64)
    | ((with_reducible refine gate_store (t := 29) (p := 6) (v := .tmp 23) rfl ?_); refine step_store rfl rfl rfl B65.out rfl (u := .agg #[.bool false, .int .i64 0, .slice none 0 0]) (seg := [.bool false, .int .i64 0, .slice none 0 0]) rfl rfl (by kernel_rfl) (by simp [Value.oneCell']) (Nat.le_refl 3) (cur' := #[.bool false, .int .i64 0, .slice none 0 0]) rfl ?_; intro w6 hbs hgs hss; have BF := Aside0.mk hbs; have HB6 := Aside0.mk (below_mput HB5.out hgs HE6.out HB5.out.size); clear hbs hgs hss))
  refine bodyPost_ret (results_list (rs := [.cell 6 29, .tmp 7, .tmp 8]) rfl (by simp) (.cell g6 29 #[.bool false, .int .i64 0, .slice none 0 0] (0, 0) _ rfl BF.out Tryd.underlying29 rfl (by kernel_rfl) (.tmp (.tmp .nil)))) rfl ?_
  exact ⟨rfl, HB6.out⟩
end Go.Proofs.YtielcanihooagaaDoor.PSemaExcludes

/- A semaphore: Acquire. Conditions: each theorem's own. -/
import Derived.Test.YtielcanihooagaaDoorSlo
set_option linter.unusedVariables false
set_option linter.unusedSimpArgs false
namespace Go.Proofs.YtielcanihooagaaDoor.PSemaExcludes
open Go.RowKit Go.Proofs.YtielcanihooagaaDoor.Ef Go.Proofs.YtielcanihooagaaDoor.Mp Go.Proofs.YtielcanihooagaaDoorW.PrintWords Go.Proofs.YtielcanihooagaaDoorW.PrintLast Go.Proofs.YtielcanihooagaaDoorW.PrintMore

/-- A counter in memory. -/
structure CX (w : World) (base gb n : Nat) (v : Value) (ok : Nat → Prop) (q : List S34) (k : Int) : Prop where
  c : ∃ c, w.heap[gb]? = some (.cells c 69 (0, 0)) ∧ CT c n v k
  row : k34.R 34 w base ok v q
  ne : ∀ k, ok k → k ≠ gb
  low : base ≤ gb
  n : n < 256
theorem CX.below {w W : World} {base gb n : Nat} {v : Value} {ok : Nat → Prop} {q : List S34} {k : Int} (h : CX w base gb n v ok q k) (hb : Below w.heap.size w W) : CX W base gb n v ok q k := ⟨let ⟨c, a, b⟩ := h.c; ⟨c, blk_below a hb, b⟩, Kd.R_below h.row hb, h.ne, h.low, h.n⟩
theorem CX.putk {w : World} {base gb n : Nat} {v : Value} {ok : Nat → Prop} {q : List S34} {k : Int} (h : CX w base gb n v ok q k) (m : Int) : CX (w.setCell ⟨gb, 2 * n + 1, none⟩ (.int .i64 m)) base gb n v ok q m ∧ w.grownBy (w.setCell ⟨gb, 2 * n + 1, none⟩ (.int .i64 m)) (some gb) := by
  obtain ⟨c, a, hc⟩ := h.c
  obtain ⟨h1, h2⟩ := set_step a (2 * n + 1) (.int .i64 m) rfl
  exact ⟨⟨⟨_, h1, hc.setk h.n m⟩, Kd.R_grown h.row h2 (fun k hk e => h.ne k hk (Option.some.inj e)), h.ne, h.low, h.n⟩, h2⟩
theorem push_cx {w : World} {base gb n : Nat} {v : Value} {ok : Nat → Prop} {q : List S34} {k : Int} (x : S34) (h : CX w base gb n v ok q k) (hb : base ≤ w.heap.size) (hl : (q.length + 1) * 16 ≤ 140737488355328) :
    Calls Tryd.prog 23 #[.pointer (some ⟨gb, 2 * n, none⟩), .agg #[.int .i64 x.f0, .int .i64 x.f1]] w fun e w' => ∃ v' ok', e = .returned (.tuple #[]) ∧ CX w' base gb n v' ok' (q ++ [x]) k ∧ (∀ k, ok' k → ok k ∨ w.heap.size ≤ k) ∧ Fr base (fun k => k = gb ∨ (ok k ∧ base ≤ k)) w w' := by
  obtain ⟨c, a, hc⟩ := h.c
  exact (pushG_calls base gb (2 * n) 69 c v ok q x w ⟨a, hc.q, h.row, h.ne, h.low⟩ hb hl).mono fun e w' ⟨v', he, hC, hF⟩ => ⟨v', _, he, ⟨⟨_, hC.blk, hc.setq h.n v'⟩, hC.row, fun k q => q.2, h.low, h.n⟩, fun k q => q.1, hF⟩
theorem pop_cx {w : World} {base gb n : Nat} {v : Value} {ok : Nat → Prop} {x : S34} {r : List S34} {k : Int} (h : CX w base gb n v ok (x :: r) k) (hb : base ≤ w.heap.size) (hq : ∀ k, ok k → k < w.heap.size) :
    Calls Tryd.prog 26 #[.pointer (some ⟨gb, 2 * n, none⟩)] w fun e w' => ∃ v' ok', e = .returned (.agg #[.int .i64 x.f0, .int .i64 x.f1]) ∧ CX w' base gb n v' ok' r k ∧ (∀ k, ok' k → ok k ∨ w.heap.size ≤ k) ∧ Fr base (fun k => k = gb ∨ (ok k ∧ base ≤ k)) w w' := by
  obtain ⟨c, a, hc⟩ := h.c
  exact (popG_calls base gb (2 * n) 69 c v ok x r w ⟨a, hc.q, h.row, h.ne, h.low⟩ hb hq).mono fun e w' ⟨v', he, hC, hF⟩ => ⟨v', _, he, ⟨⟨_, hC.blk, hc.setq h.n v'⟩, hC.row, h.ne, h.low, h.n⟩, fun k q => .inl q, hF⟩
section
variable {w W : World} {base s : Nat} {B : Bk} {nl : Nat} {vl : Value} {okl : Nat → Prop} {ql : List S83} {lo : Bool} {rd : Int} {ns : Nat} {vs : Value} {oks : Nat → Prop} {qs : List S34} {cnt : Int}
theorem SY.cx (h : SY w base s B nl vl okl ql lo rd ns vs oks qs cnt) : CX w base B.s ns vs oks qs cnt := ⟨h.sa.sm, h.rs, fun k q e => h.is_ k q (.inr (.inr (.inr (.inr e)))), h.sa.low _ (.inr (.inr (.inr (.inr rfl)))), h.sa.ns⟩
/-- The semaphore has been written. -/
theorem SY.counter (h : SY w base s B nl vl okl ql lo rd ns vs oks qs cnt) {v' : Value} {ok' : Nat → Prop} {q' : List S34} {k' : Int} (hm : CX W base B.s ns v' ok' q' k') (ho : ∀ k, ok' k → oks k ∨ w.heap.size ≤ k) (hF : Fr base (fun k => k = B.s ∨ (oks k ∧ base ≤ k)) w W) :
    SY W base s B nl vl okl ql lo rd ns v' (fun k => ok' k ∧ k < W.heap.size) q' k' := by
  obtain ⟨n1, n2, n3⟩ := h.sa.nes
  have mv : ∀ k, B.in s k → k ≠ B.s → W.heap[k]? = w.heap[k]? := fun k q e => hF.k.2 k (h.sa.lt k q) (fun z => z.elim e (fun z => h.is_ k z.1 q))
  refine ⟨⟨(mv _ (.inl rfl) n1).trans h.sa.blk, ?_, ?_, ?_, hm.c, h.sa.gs, h.sa.low, h.sa.nl, h.sa.ns⟩, Kd.R_kept h.rl hF.k (fun k q z => z.elim (fun e => h.il k q (.inr (.inr (.inr (.inr e))))) (fun z => h.ap k q z.1)), Kd.R_mono (Kd.R_bound hm.row) (fun k q => ⟨q.1, q.2.2.1⟩), h.il, ?_, ?_, fun k q => Nat.lt_of_lt_of_le (h.bl k q) hF.size, fun k q => q.2, h.ll, fun k q => (ho k q.1).elim (h.ls k) (Nat.le_trans h.size)⟩
  · obtain ⟨c, a, b⟩ := h.sa.lk; exact ⟨c, (mv _ (.inr (.inl rfl)) n2).trans a, b⟩
  · obtain ⟨c, a, b⟩ := h.sa.gr; exact ⟨c, (mv _ (.inr (.inr (.inl rfl))) h.sa.gs).trans a, b⟩
  · obtain ⟨c, a, b⟩ := h.sa.cd; exact ⟨c, (mv _ (.inr (.inr (.inr (.inl rfl)))) n3).trans a, b⟩
  · intro k q z
    exact (ho k q.1).elim (fun p => h.is_ k p z) (fun p => Nat.not_lt.2 p (h.sa.lt k z))
  · intro k q z
    exact (ho k z.1).elim (fun p => h.ap k q p) (fun p => Nat.not_lt.2 p (h.bl k q))
end
set_option maxHeartbeats 4000000 in
set_option maxRecDepth 100000 in
theorem acquire_has (base s : Nat) (B : Bk) (nl : Nat) (vl : Value) (okl : Nat → Prop) (ql : List S83) (lo : Bool) (rd : Int) (ns : Nat) (vs : Value) (oks : Nat → Prop) (qs : List S34) (cnt : Int) (a b : Int) (w : World) (H : SY w base s B nl vl okl ql lo rd ns vs oks qs cnt) (h1 : ∀ x ∈ ql, (x.f0.f0 == a && x.f0.f1 == b) = false) (h2 : ∀ x ∈ qs, (x.f0 == a && x.f1 == b) = false) (hc : 0 < cnt) (hc1 : cnt ≤ 9223372036854775807) :
    Calls Tryd.prog 9 #[.pointer (some ⟨s, 0, none⟩), .int .i64 (ns : Int), .agg #[.int .i64 a, .int .i64 b]] w fun e w' => ∃ v' ok', e = .returned (.tuple #[.agg #[.bool false, .int .i64 0, .slice none 0 0], .int .i64 0]) ∧ SY w' base s B nl vl okl ql lo rd ns v' ok' qs (cnt - 1) ∧ (∀ k, ok' k → oks k ∨ w.heap.size ≤ k) ∧ Fr base (own B s okl oks) w w' := by
  have hu63 := Tryd.underlying63
  have hu69 := Tryd.underlying69
  have hu29 := Tryd.underlying29
  have HH := Aside0.mk H
  have hn := H.sa.ns
  have hn0 : (0 : Int) ≤ (ns : Int) := by omega
  have hn1 : (ns : Int) < (256 : Int) := by omega
  have HLa := Aside0.mk (fun W g (hb : Below w.heap.size w W) (hg : W.cell? ⟨g, 0, none⟩ = some (.int .i64 (ns : Int))) => late_calls ql qs a b g 1 (ns : Int) W (H.sa.below hb) (H.ln.below hb) h1 h2 hg hn0 hn1)
  have HF := Aside0.mk (Fr.refl (S := own B s okl oks) (w := w) H.size H.low)
  have e3 : ns * 2 = 2 * ns := Nat.mul_comm _ _
  clear H h1 h2
  have hg1 : decide ((0 : Int) < cnt) = true := decide_eq_true hc
  have hwr : IntKind.i64.wrap (cnt - 1) = cnt - 1 := by simp [IntKind.wrap, IntKind.bits, IntKind.signed]; omega
  go_enter Tryd.func9, Tryd.ntmps9
  go_upto_region 4 with (first
    | ((with_reducible refine gate_dst (N := 5) rfl ?_); refine box_event ?hg (N := 5) ?hd (cs := #[.int .i64 a, .int .i64 b]) (t := 34) ?hr ?_; (case hd => rfl); (case hg => rfl); (case hr => first | (go_simp; done) | (go_simp; rfl)); intro g5 hg5 w1 hbox hb; have HE5 := Aside0.mk (show w.heap.size ≤ g5 by omega); have HB1 := Aside0.mk hb; have B5 := Aside0.mk hbox; clear hb hbox hg5)
    | ((with_reducible refine gate_dst (N := 6) rfl ?_); refine box_event ?hg (N := 6) ?hd (cs := #[.bool false, .int .i64 0, .slice none 0 0]) (t := 29) ?hr ?_; (case hd => rfl); (case hg => rfl); (case hr => first | (go_simp; done) | (go_simp; rfl)); intro g6 hg6 w2 hbox hb; have HE6 := Aside0.mk (show w.heap.size ≤ g6 from by have := HB1.out.size; omega); have HB2 := Aside0.mk (below_step HB1.out hb); have B52 := Aside0.mk (blk_below B5.out hb); have B6 := Aside0.mk hbox; clear hb hbox hg6 HB1 B5; have x0 : w2.cell? ⟨g5, 0, none⟩ = some (.int .i64 a) := (blk_cell B52.out 0).trans rfl; have x1 : w2.cell? ⟨g5, 1, none⟩ = some (.int .i64 b) := (blk_cell B52.out 1).trans rfl)
    | (go_at_call 22; (refine (HLa.out _ _ (below_alloc HB2.out _) ?cc).mono ?_); (case cc => exact (blk_cell (blk_new _ _) 0).trans rfl); rintro e w3 ⟨rfl, hb⟩; have HB3 := Aside0.mk (below_step (below_alloc HB2.out _) hb); have B53 := Aside0.mk (blk_below (blk_below B52.out (below_alloc (Below.refl _ _) _)) hb); have B63 := Aside0.mk (blk_below (blk_below B6.out (below_alloc (Below.refl _ _) _)) hb); clear hb B52 B6 x0 x1)
    | ((with_reducible refine gate_dst (N := 8) rfl ?_); refine box_event ?hg (N := 8) ?hd (cs := #[.bool false, .int .i64 0, .slice none 0 0]) (t := 29) ?hr ?_; (case hd => rfl); (case hg => rfl); (case hr => first | (go_simp; done) | (go_simp; rfl)); intro g8 hg8 w4 hbox hb; have HE8 := Aside0.mk (show w.heap.size ≤ g8 from by have := HB3.out.size; omega); have HN85 := Aside0.mk (show g8 ≠ g5 from by have := blk_lt B53.out; omega); have HN86 := Aside0.mk (show g8 ≠ g6 from by have := blk_lt B63.out; omega); have HB4 := Aside0.mk (below_step HB3.out hb); have B54 := Aside0.mk (blk_below B53.out hb); have B64 := Aside0.mk (blk_below B63.out hb); have B8 := Aside0.mk hbox; clear hb hbox hg8 HB3 B53 B63)
    | ((with_reducible refine gate_store (t := 29) (p := 8) (v := .tmp 17) rfl ?_); refine step_store rfl rfl rfl B8.out rfl (u := .agg #[.bool false, .int .i64 0, .slice none 0 0]) (seg := [.bool false, .int .i64 0, .slice none 0 0]) rfl rfl (by kernel_rfl) (by simp [Value.oneCell']) (Nat.le_refl 3) (cur' := #[.bool false, .int .i64 0, .slice none 0 0]) rfl ?_; intro w5 hbs hgs hss; have HB5 := Aside0.mk (below_mput HB4.out hgs HE8.out HB4.out.size); have B55 := Aside0.mk (blk_grown B54.out hgs (fun e => HN85.out (Option.some.inj e).symm)); have B65 := Aside0.mk (blk_grown B64.out hgs (fun e => HN86.out (Option.some.inj e).symm)); have B85 := Aside0.mk hbs; clear hbs hgs hss HB4 B54 B64 B8))
  have HS5 := Aside0.mk (HH.out.below HB5.out)
  have HF5 := Aside0.mk (HF.out.below HB5.out)
  have hno : ∀ g, w.heap.size ≤ g → ¬ own B s okl oks g := fun g hg q => by have := HH.out.lt g q; omega
  have s0 : w5.cell? ⟨s, 3, none⟩ = some (.slice (some ⟨B.s, 0, none⟩) 256 256) := (blk_cell HS5.out.sa.blk 3).trans rfl
  have c1 : w5.cell? ⟨B.s, 2 * ns + 1, none⟩ = some (.int .i64 cnt) := HS5.out.sa.ats.2.1
  have z1 : w5.frozen? ⟨B.s, 2 * ns + 1, none⟩ = false := HS5.out.sa.ats.2.2.2
  go_upto_region 7 with (fail)
  obtain ⟨hm, hg⟩ := HS5.out.cx.putk (cnt - 1)
  have HF5s := Aside0.mk ((Fr.refl (S := fun k => k = B.s ∨ (oks k ∧ base ≤ k)) (w := w5) HS5.out.size (fun k q => q.elim (fun e => HS5.out.sa.low k (.inr (.inr (.inr (.inr e))))) (fun q => q.2))).grown hg (.inl (.inl rfl)))
  have HS7 := Aside0.mk (HS5.out.counter hm (fun k q => .inl q) HF5s.out)
  have HF7 := Aside0.mk (HF5.out.then_ HF5s.out (Nat.le_refl _) (fun k z => z.elim (fun e => .inl (.inl (.inr (.inr (.inr (.inr e)))))) (fun z => .inl (.inr (.inr z.1)))))
  have B67 := Aside0.mk (blk_grown B65.out hg (fun e => hno _ HE6.out (.inl (.inr (.inr (.inr (.inr (Option.some.inj e))))))))
  have B87 := Aside0.mk (blk_grown B85.out hg (fun e => hno _ HE8.out (.inl (.inr (.inr (.inr (.inr (Option.some.inj e))))))))
  clear hm hg s0 c1 z1
  generalize w5.setCell ⟨B.s, 2 * ns + 1, none⟩ (.int .i64 (cnt - 1)) = w7 at *
  have t0 : w7.cell? ⟨g8, 0, none⟩ = some (.bool false) := (blk_cell B87.out 0).trans rfl
  have t1 : w7.cell? ⟨g8, 1, none⟩ = some (.int .i64 0) := (blk_cell B87.out 1).trans rfl
  have t2 : w7.cell? ⟨g8, 2, none⟩ = some (.slice none 0 0) := (blk_cell B87.out 2).trans rfl
  have hn7 : ¬ own B s okl (fun k => oks k ∧ k < w7.heap.size) g6 := fun q => by rcases q with q | q | q; exact hno _ HE6.out (.inl q); exact hno _ HE6.out (.inr (.inl q)); exact hno _ HE6.out (.inr (.inr q.1))
  go_wp2_with ((with_reducible refine gate_store (t := 29) (p := 6) (v := .tmp 54) rfl ?_); refine step_store rfl rfl rfl B67.out rfl (u := .agg #[.bool false, .int .i64 0, .slice none 0 0]) (seg := [.bool false, .int .i64 0, .slice none 0 0]) rfl rfl (by kernel_rfl) (by simp [Value.oneCell']) (Nat.le_refl 3) (cur' := #[.bool false, .int .i64 0, .slice none 0 0]) rfl ?_; intro w8 hbs hgs hss; have HS8 := Aside0.mk (HS7.out.grown hgs hn7); have HF8 := Aside0.mk (HF7.out.grown hgs (.inr HE6.out)); have BF := Aside0.mk hbs; clear hbs hgs hss)
  refine bodyPost_ret (results_list (rs := [.cell 6 29, .tmp 7]) rfl (by simp) (.cell g6 29 #[.bool false, .int .i64 0, .slice none 0 0] (0, 0) _ rfl BF.out Tryd.underlying29 rfl (by kernel_rfl) (.tmp .nil))) rfl ?_
  exact ⟨vs, _, rfl, HS8.out, fun k q => .inl q.1, HF8.out⟩
set_option maxHeartbeats 4000000 in
set_option maxRecDepth 100000 in
theorem acquire_waits (base s : Nat) (B : Bk) (nl : Nat) (vl : Value) (okl : Nat → Prop) (ql : List S83) (lo : Bool) (rd : Int) (ns : Nat) (vs : Value) (oks : Nat → Prop) (qs : List S34) (cnt : Int) (a b : Int) (w : World) (H : SY w base s B nl vl okl ql lo rd ns vs oks qs cnt) (h1 : ∀ x ∈ ql, (x.f0.f0 == a && x.f0.f1 == b) = false) (h2 : ∀ x ∈ qs, (x.f0 == a && x.f1 == b) = false) (hc : cnt = 0) (hl : (qs.length + 1) * 16 ≤ 140737488355328) :
    Calls Tryd.prog 9 #[.pointer (some ⟨s, 0, none⟩), .int .i64 (ns : Int), .agg #[.int .i64 a, .int .i64 b]] w fun e w' => ∃ v' ok', e = .returned (.tuple #[.agg #[.bool true, .int .i64 0, .slice none 0 0], .int .i64 0]) ∧ SY w' base s B nl vl okl ql lo rd ns v' ok' (qs ++ [⟨a, b⟩]) 0 ∧ (∀ k, ok' k → oks k ∨ w.heap.size ≤ k) ∧ Fr base (own B s okl oks) w w' := by
  have hu63 := Tryd.underlying63
  have hu69 := Tryd.underlying69
  have hu29 := Tryd.underlying29
  have HH := Aside0.mk H
  have hn := H.sa.ns
  have hn0 : (0 : Int) ≤ (ns : Int) := by omega
  have hn1 : (ns : Int) < (256 : Int) := by omega
  have HLa := Aside0.mk (fun W g (hb : Below w.heap.size w W) (hg : W.cell? ⟨g, 0, none⟩ = some (.int .i64 (ns : Int))) => late_calls ql qs a b g 1 (ns : Int) W (H.sa.below hb) (H.ln.below hb) h1 h2 hg hn0 hn1)
  have HF := Aside0.mk (Fr.refl (S := own B s okl oks) (w := w) H.size H.low)
  have e3 : ns * 2 = 2 * ns := Nat.mul_comm _ _
  clear H h1 h2
  subst hc
  go_enter Tryd.func9, Tryd.ntmps9
  go_upto_region 4 with (first
    | ((with_reducible refine gate_dst (N := 5) rfl ?_); refine box_event ?hg (N := 5) ?hd (cs := #[.int .i64 a, .int .i64 b]) (t := 34) ?hr ?_; (case hd => rfl); (case hg => rfl); (case hr => first | (go_simp; done) | (go_simp; rfl)); intro g5 hg5 w1 hbox hb; have HE5 := Aside0.mk (show w.heap.size ≤ g5 by omega); have HB1 := Aside0.mk hb; have B5 := Aside0.mk hbox; clear hb hbox hg5)
    | ((with_reducible refine gate_dst (N := 6) rfl ?_); refine box_event ?hg (N := 6) ?hd (cs := #[.bool false, .int .i64 0, .slice none 0 0]) (t := 29) ?hr ?_; (case hd => rfl); (case hg => rfl); (case hr => first | (go_simp; done) | (go_simp; rfl)); intro g6 hg6 w2 hbox hb; have HE6 := Aside0.mk (show w.heap.size ≤ g6 from by have := HB1.out.size; omega); have HB2 := Aside0.mk (below_step HB1.out hb); have B52 := Aside0.mk (blk_below B5.out hb); have B6 := Aside0.mk hbox; clear hb hbox hg6 HB1 B5; have x0 : w2.cell? ⟨g5, 0, none⟩ = some (.int .i64 a) := (blk_cell B52.out 0).trans rfl; have x1 : w2.cell? ⟨g5, 1, none⟩ = some (.int .i64 b) := (blk_cell B52.out 1).trans rfl)
    | (go_at_call 22; (refine (HLa.out _ _ (below_alloc HB2.out _) ?cc).mono ?_); (case cc => exact (blk_cell (blk_new _ _) 0).trans rfl); rintro e w3 ⟨rfl, hb⟩; have HB3 := Aside0.mk (below_step (below_alloc HB2.out _) hb); have B53 := Aside0.mk (blk_below (blk_below B52.out (below_alloc (Below.refl _ _) _)) hb); have B63 := Aside0.mk (blk_below (blk_below B6.out (below_alloc (Below.refl _ _) _)) hb); clear hb B52 B6 x0 x1)
    | ((with_reducible refine gate_dst (N := 8) rfl ?_); refine box_event ?hg (N := 8) ?hd (cs := #[.bool false, .int .i64 0, .slice none 0 0]) (t := 29) ?hr ?_; (case hd => rfl); (case hg => rfl); (case hr => first | (go_simp; done) | (go_simp; rfl)); intro g8 hg8 w4 hbox hb; have HE8 := Aside0.mk (show w.heap.size ≤ g8 from by have := HB3.out.size; omega); have HN85 := Aside0.mk (show g8 ≠ g5 from by have := blk_lt B53.out; omega); have HN86 := Aside0.mk (show g8 ≠ g6 from by have := blk_lt B63.out; omega); have HB4 := Aside0.mk (below_step HB3.out hb); have B54 := Aside0.mk (blk_below B53.out hb); have B64 := Aside0.mk (blk_below B63.out hb); have B8 := Aside0.mk hbox; clear hb hbox hg8 HB3 B53 B63)
    | ((with_reducible refine gate_store (t := 29) (p := 8) (v := .tmp 17) rfl ?_); refine step_store rfl rfl rfl B8.out rfl (u := .agg #[.bool false, .int .i64 0, .slice none 0 0]) (seg := [.bool false, .int .i64 0, .slice none 0 0]) rfl rfl (by kernel_rfl) (by simp [Value.oneCell']) (Nat.le_refl 3) (cur' := #[.bool false, .int .i64 0, .slice none 0 0]) rfl ?_; intro w5 hbs hgs hss; have HB5 := Aside0.mk (below_mput HB4.out hgs HE8.out HB4.out.size); have B55 := Aside0.mk (blk_grown B54.out hgs (fun e => HN85.out (Option.some.inj e).symm)); have B65 := Aside0.mk (blk_grown B64.out hgs (fun e => HN86.out (Option.some.inj e).symm)); have B85 := Aside0.mk hbs; clear hbs hgs hss HB4 B54 B64 B8))
  have HS5 := Aside0.mk (HH.out.below HB5.out)
  have HF5 := Aside0.mk (HF.out.below HB5.out)
  have hno : ∀ g, w.heap.size ≤ g → ¬ own B s okl oks g := fun g hg q => by have := HH.out.lt g q; omega
  have s0 : w5.cell? ⟨s, 3, none⟩ = some (.slice (some ⟨B.s, 0, none⟩) 256 256) := (blk_cell HS5.out.sa.blk 3).trans rfl
  have c1 : w5.cell? ⟨B.s, 2 * ns + 1, none⟩ = some (.int .i64 0) := HS5.out.sa.ats.2.1
  have z1 : w5.frozen? ⟨B.s, 2 * ns + 1, none⟩ = false := HS5.out.sa.ats.2.2.2
  have x0 : w5.cell? ⟨g5, 0, none⟩ = some (.int .i64 a) := (blk_cell B55.out 0).trans rfl
  have x1 : w5.cell? ⟨g5, 1, none⟩ = some (.int .i64 b) := (blk_cell B55.out 1).trans rfl
  have HPu := Aside0.mk (fun W (hb : Below w5.heap.size w5 W) => push_cx (⟨a, b⟩ : S34) ((HS5.out.below hb).cx) (HS5.out.below hb).size hl)
  go_upto_region 2 with (fail)
  go_region_with (go_at_call 23; (refine (HPu.out _ (pw_below_drewN (Below.refl _ _) 1)).mono ?_); rintro e w6 ⟨v6, ok6, rfl, hm, ho, hF⟩; have HS6 := Aside0.mk ((HS5.out.below (pw_below_drewN (Below.refl _ _) 1)).counter hm ho hF); have HO6 := Aside0.mk (show ∀ k, (ok6 k ∧ k < w6.heap.size) → oks k ∨ w.heap.size ≤ k from fun k q => (ho k q.1).imp id (Nat.le_trans HB5.out.size)); have HF6 := Aside0.mk ((HF5.out.drewN 1).then_ hF (Nat.le_refl _) (fun k z => z.elim (fun e => .inl (.inl (.inr (.inr (.inr (.inr e)))))) (fun z => .inl (.inr (.inr z.1))))); have HN6 := Aside0.mk (show ∀ g, w.heap.size ≤ g → g < w5.heap.size → ¬ own B s okl (fun k => ok6 k ∧ k < w6.heap.size) g from fun g q1 q2 q => by rcases q with q | q | q; exact hno g q1 (.inl q); exact hno g q1 (.inr (.inl q)); exact (ho g q.1).elim (fun p => hno g q1 (.inr (.inr p))) (fun p => Nat.not_lt.2 p q2)); have hnx : ∀ g, w.heap.size ≤ g → ¬ (g = B.s ∨ (oks g ∧ base ≤ g)) := (fun g hg z => z.elim (fun e => hno g hg (.inl (.inr (.inr (.inr (.inr e)))))) (fun z => hno g hg (.inr (.inr z.1)))); have B66 := Aside0.mk (hF.blk (w := w5.drewN 1) B65.out (hnx _ HE6.out)); have B86 := Aside0.mk (hF.blk (w := w5.drewN 1) B85.out (hnx _ HE8.out)); clear hm ho hF hnx x0 x1 s0 c1 z1; have t0 : w6.cell? ⟨g8, 0, none⟩ = some (.bool false) := (blk_cell B86.out 0).trans rfl; have z0 := blk_frozen B86.out 0)
  all_goals
    go_upto_region 7 with (fail)
    obtain ⟨hb7, hg7⟩ := set_step B86.out 0 (.bool true) (cur' := #[.bool true, .int .i64 0, .slice none 0 0]) rfl
    have HS7 := Aside0.mk (HS6.out.grown hg7 (HN6.out _ HE8.out (blk_lt B85.out)))
    have HF7 := Aside0.mk (HF6.out.grown hg7 (.inr HE8.out))
    have B67 := Aside0.mk (blk_grown B66.out hg7 (fun e => HN86.out (Option.some.inj e).symm))
    have B87 := Aside0.mk hb7
    clear hb7 hg7 t0 z0
    generalize w6.setCell ⟨g8, 0, none⟩ (.bool true) = w7 at *
    have t0 : w7.cell? ⟨g8, 0, none⟩ = some (.bool true) := (blk_cell B87.out 0).trans rfl
    have t1 : w7.cell? ⟨g8, 1, none⟩ = some (.int .i64 0) := (blk_cell B87.out 1).trans rfl
    have t2 : w7.cell? ⟨g8, 2, none⟩ = some (.slice none 0 0) := (blk_cell B87.out 2).trans rfl
    go_wp2_with ((with_reducible refine gate_store (t := 29) (p := 6) (v := .tmp 54) rfl ?_); refine step_store rfl rfl rfl B67.out rfl (u := .agg #[.bool true, .int .i64 0, .slice none 0 0]) (seg := [.bool true, .int .i64 0, .slice none 0 0]) rfl rfl (by kernel_rfl) (by simp [Value.oneCell']) (Nat.le_refl 3) (cur' := #[.bool true, .int .i64 0, .slice none 0 0]) rfl ?_; intro w8 hbs hgs hss; have HS8 := Aside0.mk (HS7.out.grown hgs (HN6.out _ HE6.out (blk_lt B65.out))); have HF8 := Aside0.mk (HF7.out.grown hgs (.inr HE6.out)); have BF := Aside0.mk hbs; clear hbs hgs hss)
    refine bodyPost_ret (results_list (rs := [.cell 6 29, .tmp 7]) rfl (by simp) (.cell g6 29 #[.bool true, .int .i64 0, .slice none 0 0] (0, 0) _ rfl BF.out Tryd.underlying29 rfl (by kernel_rfl) (.tmp .nil))) rfl ?_
    exact ⟨v6, _, rfl, HS8.out, HO6.out, HF8.out⟩
end Go.Proofs.YtielcanihooagaaDoor.PSemaExcludes

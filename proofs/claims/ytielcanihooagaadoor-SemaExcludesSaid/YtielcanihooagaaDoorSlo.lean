/- A Sync whole, and its Lock. Conditions: each theorem's own. -/
import Derived.Test.YtielcanihooagaaDoorSas
set_option linter.unusedVariables false
set_option linter.unusedSimpArgs false
namespace Go.Proofs.YtielcanihooagaaDoor.PSemaExcludes
open Go.RowKit Go.Proofs.YtielcanihooagaaDoor.Ef Go.Proofs.YtielcanihooagaaDoor.Mp Go.Proofs.YtielcanihooagaaDoorW.PrintWords Go.Proofs.YtielcanihooagaaDoorW.PrintLast Go.Proofs.YtielcanihooagaaDoorW.PrintMore

structure SY (w : World) (base s : Nat) (B : Bk) (nl : Nat) (vl : Value) (okl : Nat → Prop) (ql : List S83) (lo : Bool) (rd : Int) (ns : Nat) (vs : Value) (oks : Nat → Prop) (qs : List S34) (cnt : Int) : Prop where
  sa : SA w base s B nl vl lo rd ns vs cnt
  rl : k83.R 83 w base okl vl ql
  rs : k34.R 34 w base oks vs qs
  il : ∀ k, okl k → ¬ B.in s k
  is_ : ∀ k, oks k → ¬ B.in s k
  ap : ∀ k, okl k → ¬ oks k
  bl : ∀ k, okl k → k < w.heap.size
  bs : ∀ k, oks k → k < w.heap.size
  ll : ∀ k, okl k → base ≤ k
  ls : ∀ k, oks k → base ≤ k
theorem grown_kept {w W : World} {g : Nat} (h : w.grownBy W (some g)) : Kept w W (fun k => k = g) := ⟨h.size, fun k hk hn => h.block k hk (fun e => hn (Option.some.inj e))⟩
/-- What a Sync's blocks are. -/
def own (B : Bk) (s : Nat) (okl oks : Nat → Prop) (k : Nat) : Prop := B.in s k ∨ okl k ∨ oks k
section
variable {w W : World} {base s : Nat} {B : Bk} {nl : Nat} {vl : Value} {okl : Nat → Prop} {ql : List S83} {lo : Bool} {rd : Int} {ns : Nat} {vs : Value} {oks : Nat → Prop} {qs : List S34} {cnt : Int}
theorem SY.size (h : SY w base s B nl vl okl ql lo rd ns vs oks qs cnt) : base ≤ w.heap.size := Nat.le_trans (h.sa.low s (.inl rfl)) (Nat.le_of_lt (blk_lt h.sa.blk))
theorem SY.ln (h : SY w base s B nl vl okl ql lo rd ns vs oks qs cnt) : Ln w vl vs ql qs :=
  ⟨(by obtain ⟨A, c, rfl⟩ := Kd.R_slice h.rl; exact ⟨A, c, rfl, (Kd.R_reads' h.rl).2.1, (Kd.R_reads' h.rl).2.2⟩), (by obtain ⟨A, c, rfl⟩ := Kd.R_slice h.rs; exact ⟨A, c, rfl, (Kd.R_reads' h.rs).2.1, (Kd.R_reads' h.rs).2.2⟩)⟩
theorem SY.lt (h : SY w base s B nl vl okl ql lo rd ns vs oks qs cnt) : ∀ k, own B s okl oks k → k < w.heap.size := fun k q => q.elim (h.sa.lt k) (fun q => q.elim (h.bl k) (h.bs k))
theorem SY.kept (h : SY w base s B nl vl okl ql lo rd ns vs oks qs cnt) {X : Nat → Prop} (hk : Kept w W X) (hn : ∀ k, own B s okl oks k → ¬ X k) : SY W base s B nl vl okl ql lo rd ns vs oks qs cnt :=
  ⟨h.sa.move (fun k q => hk.2 k (h.sa.lt k q) (hn k (.inl q))), Kd.R_kept h.rl hk (fun k q => hn k (.inr (.inl q))), Kd.R_kept h.rs hk (fun k q => hn k (.inr (.inr q))), h.il, h.is_, h.ap, fun k q => Nat.lt_of_lt_of_le (h.bl k q) hk.1, fun k q => Nat.lt_of_lt_of_le (h.bs k q) hk.1, h.ll, h.ls⟩
theorem SY.below (h : SY w base s B nl vl okl ql lo rd ns vs oks qs cnt) (hb : Below w.heap.size w W) : SY W base s B nl vl okl ql lo rd ns vs oks qs cnt := h.kept (Kept.of_below hb (fun _ => False)) (fun _ _ => id)
theorem SY.grown (h : SY w base s B nl vl okl ql lo rd ns vs oks qs cnt) {g : Nat} (hg : w.grownBy W (some g)) (hn : ¬ own B s okl oks g) : SY W base s B nl vl okl ql lo rd ns vs oks qs cnt := h.kept (grown_kept hg) (fun k q e => hn (e ▸ q))
theorem SY.low (h : SY w base s B nl vl okl ql lo rd ns vs oks qs cnt) : ∀ k, own B s okl oks k → base ≤ k := fun k q => q.elim (h.sa.low k) (fun q => q.elim (h.ll k) (h.ls k))
theorem SY.mx (h : SY w base s B nl vl okl ql lo rd ns vs oks qs cnt) : MX w base B.l nl vl okl ql lo rd := ⟨h.sa.lk, h.rl, fun k q e => h.il k q (.inr (.inl e)), h.sa.low _ (.inr (.inl rfl)), h.sa.nl⟩
theorem SA.nel (h : SA w base s B nl vl lo rd ns vs cnt) : s ≠ B.l ∧ B.g ≠ B.l ∧ B.c ≠ B.l ∧ B.s ≠ B.l := by
  obtain ⟨c1, h1, _⟩ := h.lk; obtain ⟨c2, h2, _⟩ := h.gr; obtain ⟨c3, h3, _⟩ := h.cd; obtain ⟨c4, h4, _⟩ := h.sm
  exact ⟨blk_ne h.blk h1 (by decide), blk_ne h2 h1 (by decide), blk_ne h3 h1 (by decide), blk_ne h4 h1 (by decide)⟩
theorem SA.nes (h : SA w base s B nl vl lo rd ns vs cnt) : s ≠ B.s ∧ B.l ≠ B.s ∧ B.c ≠ B.s := by
  obtain ⟨c1, h1, _⟩ := h.lk; obtain ⟨c2, h2, _⟩ := h.gr; obtain ⟨c3, h3, _⟩ := h.cd; obtain ⟨c4, h4, _⟩ := h.sm
  exact ⟨blk_ne h.blk h4 (by decide), blk_ne h1 h4 (by decide), blk_ne h3 h4 (by decide)⟩
/-- The mutex has been written. -/
theorem SY.mutex (h : SY w base s B nl vl okl ql lo rd ns vs oks qs cnt) {v' : Value} {ok' : Nat → Prop} {q' : List S83} {lo' : Bool} {rd' : Int} (hm : MX W base B.l nl v' ok' q' lo' rd') (ho : ∀ k, ok' k → okl k ∨ w.heap.size ≤ k) (hF : Fr base (fun k => k = B.l ∨ (okl k ∧ base ≤ k)) w W) :
    SY W base s B nl v' (fun k => ok' k ∧ k < W.heap.size) q' lo' rd' ns vs oks qs cnt := by
  obtain ⟨n1, n2, n3, n4⟩ := h.sa.nel
  have mv : ∀ k, B.in s k → k ≠ B.l → W.heap[k]? = w.heap[k]? := fun k q e => hF.k.2 k (h.sa.lt k q) (fun z => z.elim e (fun z => h.il k z.1 q))
  refine ⟨⟨(mv _ (.inl rfl) n1).trans h.sa.blk, hm.c, ?_, ?_, ?_, h.sa.gs, h.sa.low, h.sa.nl, h.sa.ns⟩, Kd.R_mono (Kd.R_bound hm.row) (fun k q => ⟨q.1, q.2.2.1⟩), Kd.R_kept h.rs hF.k (fun k q z => z.elim (fun e => h.is_ k q (.inr (.inl e))) (fun z => h.ap k z.1 q)), ?_, h.is_, ?_, fun k q => q.2, fun k q => Nat.lt_of_lt_of_le (h.bs k q) hF.size, fun k q => (ho k q.1).elim (h.ll k) (Nat.le_trans h.size), h.ls⟩
  · obtain ⟨c, a, b⟩ := h.sa.gr; exact ⟨c, (mv _ (.inr (.inr (.inl rfl))) n2).trans a, b⟩
  · obtain ⟨c, a, b⟩ := h.sa.cd; exact ⟨c, (mv _ (.inr (.inr (.inr (.inl rfl)))) n3).trans a, b⟩
  · obtain ⟨c, a, b⟩ := h.sa.sm; exact ⟨c, (mv _ (.inr (.inr (.inr (.inr rfl)))) n4).trans a, b⟩
  · intro k q z
    exact (ho k q.1).elim (fun p => h.il k p z) (fun p => Nat.not_lt.2 p (h.sa.lt k z))
  · intro k q z
    exact (ho k q.1).elim (fun p => h.ap k p z) (fun p => Nat.not_lt.2 p (h.bs k z))
end
set_option maxHeartbeats 4000000 in
set_option maxRecDepth 100000 in
theorem lock_calls (base s : Nat) (B : Bk) (nl : Nat) (vl : Value) (okl : Nat → Prop) (ql : List S83) (lo : Bool) (rd : Int) (ns : Nat) (vs : Value) (oks : Nat → Prop) (qs : List S34) (cnt : Int) (a b : Int) (w : World) (H : SY w base s B nl vl okl ql lo rd ns vs oks qs cnt) (h1 : ∀ x ∈ ql, (x.f0.f0 == a && x.f0.f1 == b) = false) (h2 : ∀ x ∈ qs, (x.f0 == a && x.f1 == b) = false) (h0 : 0 ≤ rd) (hs : rd + (ql.length : Int) ≤ 3000000000000) {q' : List S83} {lo' : Bool} {rd' : Int} {wk : List S34} (hH : handM (ql ++ [⟨⟨a, b⟩, false⟩]) lo rd = (q', lo', rd', wk)) (hwk : wk.length ≤ 4000000000000) :
    Calls Tryd.prog 11 #[.pointer (some ⟨s, 0, none⟩), .int .i64 (nl : Int), .agg #[.int .i64 a, .int .i64 b]] w fun e w' => ∃ v' ok', e = .returned (.tuple #[.agg #[.bool (!inG a b wk), .int .i64 0, .slice none 0 0], .int .i64 0]) ∧ SY w' base s B nl v' ok' q' lo' rd' ns vs oks qs cnt ∧ (∀ k, ok' k → okl k ∨ w.heap.size ≤ k) ∧ Fr base (own B s okl oks) w w' := by
  have hu63 := Tryd.underlying63
  have hu79 := Tryd.underlying79
  have hu29 := Tryd.underlying29
  have HH := Aside0.mk H
  have HE := Aside0.mk hH
  have hn := H.sa.nl
  have hn0 : (0 : Int) ≤ (nl : Int) := by omega
  have hn1 : (nl : Int) < (256 : Int) := by omega
  have HLa := Aside0.mk (fun W g (hb : Below w.heap.size w W) (hg : W.cell? ⟨g, 0, none⟩ = some (.int .i64 (nl : Int))) => late_calls ql qs a b g 1 (nl : Int) W (H.sa.below hb) (H.ln.below hb) h1 h2 hg hn0 hn1)
  have HF := Aside0.mk (Fr.refl (S := own B s okl oks) (w := w) H.size H.low)
  clear H hH h1 h2
  go_enter Tryd.func11, Tryd.ntmps11
  go_upto_region 3 with (first
    | ((with_reducible refine gate_dst (N := 5) rfl ?_); refine box_event ?hg (N := 5) ?hd (cs := #[.int .i64 a, .int .i64 b]) (t := 34) ?hr ?_; (case hd => rfl); (case hg => rfl); (case hr => first | (go_simp; done) | (go_simp; rfl)); intro g5 hg5 w1 hbox hb; have HE5 := Aside0.mk (show w.heap.size ≤ g5 by omega); have HB1 := Aside0.mk hb; have B5 := Aside0.mk hbox; clear hb hbox hg5)
    | ((with_reducible refine gate_dst (N := 6) rfl ?_); refine box_event ?hg (N := 6) ?hd (cs := #[.bool false, .int .i64 0, .slice none 0 0]) (t := 29) ?hr ?_; (case hd => rfl); (case hg => rfl); (case hr => first | (go_simp; done) | (go_simp; rfl)); intro g6 hg6 w2 hbox hb; have HE6 := Aside0.mk (show w.heap.size ≤ g6 from by have := HB1.out.size; omega); have HB2 := Aside0.mk (below_step HB1.out hb); have B52 := Aside0.mk (blk_below B5.out hb); have B6 := Aside0.mk hbox; clear hb hbox hg6 HB1 B5; have x0 : w2.cell? ⟨g5, 0, none⟩ = some (.int .i64 a) := (blk_cell B52.out 0).trans rfl; have x1 : w2.cell? ⟨g5, 1, none⟩ = some (.int .i64 b) := (blk_cell B52.out 1).trans rfl)
    | (go_at_call 22; (refine (HLa.out _ _ (below_alloc HB2.out _) ?cc).mono ?_); (case cc => exact (blk_cell (blk_new _ _) 0).trans rfl); rintro e w3 ⟨rfl, hb⟩; have HB3 := Aside0.mk (below_step (below_alloc HB2.out _) hb); have B53 := Aside0.mk (blk_below (blk_below B52.out (below_alloc (Below.refl _ _) _)) hb); have B63 := Aside0.mk (blk_below (blk_below B6.out (below_alloc (Below.refl _ _) _)) hb); clear hb B52 B6 x0 x1)
    | ((with_reducible refine gate_dst (N := 8) rfl ?_); refine box_event ?hg (N := 8) ?hd (cs := #[.bool false, .int .i64 0, .slice none 0 0]) (t := 29) ?hr ?_; (case hd => rfl); (case hg => rfl); (case hr => first | (go_simp; done) | (go_simp; rfl)); intro g8 hg8 w4 hbox hb; have HE8 := Aside0.mk (show w.heap.size ≤ g8 from by have := HB3.out.size; omega); have HN85 := Aside0.mk (show g8 ≠ g5 from by have := blk_lt B53.out; omega); have HN86 := Aside0.mk (show g8 ≠ g6 from by have := blk_lt B63.out; omega); have HB4 := Aside0.mk (below_step HB3.out hb); have B54 := Aside0.mk (blk_below B53.out hb); have B64 := Aside0.mk (blk_below B63.out hb); have B8 := Aside0.mk hbox; clear hb hbox hg8 HB3 B53 B63)
    | ((with_reducible refine gate_store (t := 29) (p := 8) (v := .tmp 17) rfl ?_); refine step_store rfl rfl rfl B8.out rfl (u := .agg #[.bool false, .int .i64 0, .slice none 0 0]) (seg := [.bool false, .int .i64 0, .slice none 0 0]) rfl rfl (by kernel_rfl) (by simp [Value.oneCell']) (Nat.le_refl 3) (cur' := #[.bool false, .int .i64 0, .slice none 0 0]) rfl ?_; intro w5 hbs hgs hss; have HB5 := Aside0.mk (below_mput HB4.out hgs HE8.out HB4.out.size); have B55 := Aside0.mk (blk_grown B54.out hgs (fun e => HN85.out (Option.some.inj e).symm)); have B65 := Aside0.mk (blk_grown B64.out hgs (fun e => HN86.out (Option.some.inj e).symm)); have B85 := Aside0.mk hbs; clear hbs hgs hss HB4 B54 B64 B8))
  have HS5 := Aside0.mk (HH.out.below HB5.out)
  have HF5 := Aside0.mk (HF.out.below HB5.out)
  have hno : ∀ g, w.heap.size ≤ g → ¬ own B s okl oks g := fun g hg q => by have := HH.out.lt g q; omega
  have x0 : w5.cell? ⟨g5, 0, none⟩ = some (.int .i64 a) := (blk_cell B55.out 0).trans rfl
  have x1 : w5.cell? ⟨g5, 1, none⟩ = some (.int .i64 b) := (blk_cell B55.out 1).trans rfl
  have s0 : w5.cell? ⟨s, 0, none⟩ = some (.slice (some ⟨B.l, 0, none⟩) 256 256) := (blk_cell HS5.out.sa.blk 0).trans rfl
  have t0 : w5.cell? ⟨g8, 0, none⟩ = some (.bool false) := (blk_cell B85.out 0).trans rfl
  have z0 := blk_frozen B85.out 0
  have e3 : nl * 3 = 3 * nl := Nat.mul_comm _ _
  have HAk := Aside0.mk (fun W (hb : Below w5.heap.size w5 W) => ask_calls base B.l nl vl okl ql lo rd a b false W ((HS5.out.below hb).mx) (HS5.out.below hb).size (HS5.out.below hb).bl h0 hs HE.out hwk)
  go_region_with (go_at_call 27; (refine (HAk.out _ (pw_below_drewN (Below.refl _ _) 1)).mono ?_); rintro e w6 ⟨v6, ok6, rfl, hm, ho, hF⟩; have HS6 := Aside0.mk ((HS5.out.below (pw_below_drewN (Below.refl _ _) 1)).mutex hm ho hF); have HO6 := Aside0.mk (show ∀ k, (ok6 k ∧ k < w6.heap.size) → okl k ∨ w.heap.size ≤ k from fun k q => (ho k q.1).imp id (Nat.le_trans HB5.out.size)); have HF6 := Aside0.mk ((HF5.out.drewN 1).then_ hF (Nat.le_refl _) (fun k z => z.elim (fun e => .inl (.inl (.inr (.inl e)))) (fun z => .inl (.inr (.inl z.1))))); have HN6 := Aside0.mk (show ∀ g, w.heap.size ≤ g → g < w5.heap.size → ¬ own B s (fun k => ok6 k ∧ k < w6.heap.size) oks g from fun g q1 q2 q => by rcases q with q | q | q; exact hno g q1 (.inl q); exact (ho g q.1).elim (fun p => hno g q1 (.inr (.inl p))) (fun p => Nat.not_lt.2 p q2); exact hno g q1 (.inr (.inr q))); have hnx : ∀ g, w.heap.size ≤ g → ¬ (g = B.l ∨ (okl g ∧ base ≤ g)) := (fun g hg z => z.elim (fun e => hno g hg (.inl (.inr (.inl e)))) (fun z => hno g hg (.inr (.inl z.1)))); have B66 := Aside0.mk (hF.blk (w := w5.drewN 1) B65.out (hnx _ HE6.out)); have B86 := Aside0.mk (hF.blk (w := w5.drewN 1) B85.out (hnx _ HE8.out)); clear hm ho hF hnx x0 x1 s0 t0 z0; have t0 : w6.cell? ⟨g8, 0, none⟩ = some (.bool false) := (blk_cell B86.out 0).trans rfl; have z0 := blk_frozen B86.out 0)
  all_goals
    obtain ⟨hb7, hg7⟩ := set_step B86.out 0 (.bool (!inG a b wk)) (cur' := #[.bool (!inG a b wk), .int .i64 0, .slice none 0 0]) rfl
    have HS7 := Aside0.mk (HS6.out.grown hg7 (HN6.out _ HE8.out (blk_lt B85.out)))
    have HF7 := Aside0.mk (HF6.out.grown hg7 (.inr HE8.out))
    have B67 := Aside0.mk (blk_grown B66.out hg7 (fun e => HN86.out (Option.some.inj e).symm))
    have B87 := Aside0.mk hb7
    clear hb7 hg7 t0 z0
    generalize w6.setCell ⟨g8, 0, none⟩ (.bool (!inG a b wk)) = w7 at *
    have t0 : w7.cell? ⟨g8, 0, none⟩ = some (.bool (!inG a b wk)) := (blk_cell B87.out 0).trans rfl
    have t1 : w7.cell? ⟨g8, 1, none⟩ = some (.int .i64 0) := (blk_cell B87.out 1).trans rfl
    have t2 : w7.cell? ⟨g8, 2, none⟩ = some (.slice none 0 0) := (blk_cell B87.out 2).trans rfl
    go_wp2_with ((with_reducible refine gate_store (t := 29) (p := 6) (v := .tmp 30) rfl ?_); refine step_store rfl rfl rfl B67.out rfl (u := .agg #[.bool (!inG a b wk), .int .i64 0, .slice none 0 0]) (seg := [.bool (!inG a b wk), .int .i64 0, .slice none 0 0]) rfl rfl (by kernel_rfl) (by simp [Value.oneCell']) (Nat.le_refl 3) (cur' := #[.bool (!inG a b wk), .int .i64 0, .slice none 0 0]) rfl ?_; intro w8 hbs hgs hss; have HS8 := Aside0.mk (HS7.out.grown hgs (HN6.out _ HE6.out (blk_lt B65.out))); have HF8 := Aside0.mk (HF7.out.grown hgs (.inr HE6.out)); have BF := Aside0.mk hbs; clear hbs hgs hss)
    refine bodyPost_ret (results_list (rs := [.cell 6 29, .tmp 7]) rfl (by simp) (.cell g6 29 #[.bool (!inG a b wk), .int .i64 0, .slice none 0 0] (0, 0) _ rfl BF.out Tryd.underlying29 rfl (by kernel_rfl) (.tmp .nil))) rfl ?_
    exact ⟨v6, _, rfl, HS8.out, HO6.out, HF8.out⟩
end Go.Proofs.YtielcanihooagaaDoor.PSemaExcludes

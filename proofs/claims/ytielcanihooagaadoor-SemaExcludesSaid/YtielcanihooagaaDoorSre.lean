/- A semaphore: Release. Conditions: each theorem's own. -/
import Derived.Test.YtielcanihooagaaDoorSac
set_option linter.unusedVariables false
set_option linter.unusedSimpArgs false
namespace Go.Proofs.YtielcanihooagaaDoor.PSemaExcludes
open Go.RowKit Go.Proofs.YtielcanihooagaaDoor.Ef Go.Proofs.YtielcanihooagaaDoor.Mp Go.Proofs.YtielcanihooagaaDoorW.PrintWords Go.Proofs.YtielcanihooagaaDoorW.PrintLast Go.Proofs.YtielcanihooagaaDoorW.PrintMore

set_option maxRecDepth 100000 in
theorem there_calls {base s : Nat} {B : Bk} {nl : Nat} {vl : Value} {lo : Bool} {rd : Int} {ns : Nat} {vs : Value} {cnt : Int} (n : Int) (n0 : 0 ≤ n) (n1 : n < 256) (w : World) (h : SA w base s B nl vl lo rd ns vs cnt) :
    Calls Tryd.prog 24 #[.pointer (some ⟨s, 0, none⟩), .int .i64 n] w fun e w' => e = .returned (.bool true) ∧ Below w.heap.size w w' := by
  have HI := Aside0.mk (is_calls w h)
  have HC := Aside0.mk (fun W => sema_number.calls n true W (by unfold sema_number.f; rw [if_pos (by omega), decide_eq_true n1]))
  clear h n0 n1
  go_enter Tryd.func24, Tryd.ntmps24
  go_wp2_with (first
    | (go_at_call 37; (refine HI.out.mono ?_); rintro e w2 ⟨rfl, hb⟩; have HB := Aside0.mk hb; clear hb)
    | (go_at_call 60; (refine (HC.out _).mono ?_); rintro e w3 ⟨rfl, n3, rfl⟩; have HB3 := Aside0.mk (pw_below_drewN HB.out n3)))
  go_ret
  exact ⟨rfl, HB3.out⟩
set_option maxHeartbeats 4000000 in
set_option maxRecDepth 100000 in
theorem release_up (base s : Nat) (B : Bk) (nl : Nat) (vl : Value) (okl : Nat → Prop) (ql : List S83) (lo : Bool) (rd : Int) (ns : Nat) (vs : Value) (oks : Nat → Prop) (cnt : Int) (w : World) (H : SY w base s B nl vl okl ql lo rd ns vs oks [] cnt) (h0 : 0 ≤ cnt) (h1 : cnt < 9223372036854775807) :
    Calls Tryd.prog 10 #[.pointer (some ⟨s, 0, none⟩), .int .i64 (ns : Int)] w fun e w' => ∃ v' ok', e = .returned (.agg #[.bool false, .int .i64 0, .slice none 0 0]) ∧ SY w' base s B nl vl okl ql lo rd ns v' ok' [] (cnt + 1) ∧ (∀ k, ok' k → oks k ∨ w.heap.size ≤ k) ∧ Fr base (own B s okl oks) w w' := by
  have hu63 := Tryd.underlying63
  have hu69 := Tryd.underlying69
  have hu29 := Tryd.underlying29
  obtain ⟨Aq, cq, rfl⟩ := Kd.R_slice H.rs
  have HH := Aside0.mk H
  have hn := H.sa.ns
  have hn0 : (0 : Int) ≤ (ns : Int) := by omega
  have hn1 : (ns : Int) < (256 : Int) := by omega
  have e3 : ns * 2 = 2 * ns := Nat.mul_comm _ _
  have HF := Aside0.mk (Fr.refl (S := own B s okl oks) (w := w) H.size H.low)
  have HTh := Aside0.mk (fun W (hb : Below w.heap.size w W) => there_calls (ns : Int) hn0 hn1 W (H.sa.below hb))
  have hng : (cnt == 9223372036854775807) = false := by simp; omega
  have hwr : IntKind.i64.wrap (cnt + 1) = cnt + 1 := by simp [IntKind.wrap, IntKind.bits, IntKind.signed]; omega
  clear H
  go_enter Tryd.func10, Tryd.ntmps10
  go_upto_region 8 with (first
    | ((with_reducible refine gate_dst (N := 4) rfl ?_); refine box_event ?hg (N := 4) ?hd (cs := #[.bool false, .int .i64 0, .slice none 0 0]) (t := 29) ?hr ?_; (case hd => rfl); (case hg => rfl); (case hr => first | (go_simp; done) | (go_simp; rfl)); intro g4 hg4 w1 hbox hb; have HE4 := Aside0.mk (show w.heap.size ≤ g4 by omega); have HB1 := Aside0.mk hb; have B4 := Aside0.mk hbox; clear hb hbox hg4)
    | (go_at_call 24; (refine (HTh.out _ HB1.out).mono ?_); rintro e w2 ⟨rfl, hb⟩; have HB2 := Aside0.mk (below_step HB1.out hb); have B42 := Aside0.mk (blk_below B4.out hb); have HS2 := Aside0.mk (HH.out.below HB2.out); clear hb HB1 B4; have s0 : w2.cell? ⟨s, 3, none⟩ = some (.slice (some ⟨B.s, 0, none⟩) 256 256) := (blk_cell HS2.out.sa.blk 3).trans rfl; have c0 : w2.cell? ⟨B.s, 2 * ns, none⟩ = some (.slice Aq 0 cq) := HS2.out.sa.ats.1; have c1 : w2.cell? ⟨B.s, 2 * ns + 1, none⟩ = some (.int .i64 cnt) := HS2.out.sa.ats.2.1; have z1 : w2.frozen? ⟨B.s, 2 * ns + 1, none⟩ = false := HS2.out.sa.ats.2.2.2)
    | (go_at_call 25; (refine (lenG_calls B.s (2 * ns) Aq 0 cq _ c0).mono ?_); rintro e w3 ⟨rfl, rfl⟩))
  have hno : ∀ g, w.heap.size ≤ g → ¬ own B s okl oks g := fun g hg q => by have := HH.out.lt g q; omega
  go_upto_region 9 with (fail)
  obtain ⟨hm, hg⟩ := HS2.out.cx.putk (cnt + 1)
  have HF2s := Aside0.mk ((Fr.refl (S := fun k => k = B.s ∨ (oks k ∧ base ≤ k)) (w := w2) HS2.out.size (fun k q => q.elim (fun e => HS2.out.sa.low k (.inr (.inr (.inr (.inr e))))) (fun q => q.2))).grown hg (.inl (.inl rfl)))
  have HS7 := Aside0.mk (HS2.out.counter hm (fun k q => .inl q) HF2s.out)
  have HF7 := Aside0.mk ((HF.out.below HB2.out).then_ HF2s.out (Nat.le_refl _) (fun k z => z.elim (fun e => .inl (.inl (.inr (.inr (.inr (.inr e)))))) (fun z => .inl (.inr (.inr z.1)))))
  have B47 := Aside0.mk (blk_grown B42.out hg (fun e => hno _ HE4.out (.inl (.inr (.inr (.inr (.inr (Option.some.inj e))))))))
  clear hm hg s0 c0 c1 z1
  generalize w2.setCell ⟨B.s, 2 * ns + 1, none⟩ (.int .i64 (cnt + 1)) = w7 at *
  have hn7 : ¬ own B s okl (fun k => oks k ∧ k < w7.heap.size) g4 := fun q => by rcases q with q | q | q; exact hno _ HE4.out (.inl q); exact hno _ HE4.out (.inr (.inl q)); exact hno _ HE4.out (.inr (.inr q.1))
  go_wp2_with ((with_reducible refine gate_store (t := 29) (p := 4) (v := .tmp 43) rfl ?_); refine step_store rfl rfl rfl B47.out rfl (u := .agg #[.bool false, .int .i64 0, .slice none 0 0]) (seg := [.bool false, .int .i64 0, .slice none 0 0]) rfl rfl (by kernel_rfl) (by simp [Value.oneCell']) (Nat.le_refl 3) (cur' := #[.bool false, .int .i64 0, .slice none 0 0]) rfl ?_; intro w8 hbs hgs hss; have HS8 := Aside0.mk (HS7.out.grown hgs hn7); have HF8 := Aside0.mk (HF7.out.grown hgs (.inr HE4.out)); have BF := Aside0.mk hbs; clear hbs hgs hss)
  refine bodyPost_ret (results_single (r := .cell 4 29) rfl (.cell g4 29 #[.bool false, .int .i64 0, .slice none 0 0] (0, 0) _ rfl BF.out Tryd.underlying29 rfl (by kernel_rfl) .nil)) rfl ?_
  exact ⟨_, _, rfl, HS8.out, fun k q => .inl q.1, HF8.out⟩
set_option maxHeartbeats 4000000 in
set_option maxRecDepth 100000 in
theorem release_pop (base s : Nat) (B : Bk) (nl : Nat) (vl : Value) (okl : Nat → Prop) (ql : List S83) (lo : Bool) (rd : Int) (ns : Nat) (vs : Value) (oks : Nat → Prop) (x : S34) (r : List S34) (cnt : Int) (w : World) (H : SY w base s B nl vl okl ql lo rd ns vs oks (x :: r) cnt) :
    Calls Tryd.prog 10 #[.pointer (some ⟨s, 0, none⟩), .int .i64 (ns : Int)] w fun e w' => ∃ A v' ok', e = .returned (.agg #[.bool false, .int .i64 0, .slice A 1 1]) ∧ SY w' base s B nl vl okl ql lo rd ns v' ok' r cnt ∧ (∀ k, ok' k → oks k ∨ w.heap.size ≤ k) ∧ Fr base (own B s okl oks) w w' := by
  have hu63 := Tryd.underlying63
  have hu69 := Tryd.underlying69
  have hu29 := Tryd.underlying29
  obtain ⟨Aq, cq, rfl⟩ := Kd.R_slice H.rs
  obtain ⟨n, hnn⟩ : ∃ n, (x :: r).length = n := ⟨_, rfl⟩
  rw [hnn] at H
  have hnp : (0 : Int) < (n : Int) := by rw [← hnn]; first | (simp; done) | (simp; omega)
  have hng : decide ((0 : Int) < (n : Int)) = true := decide_eq_true hnp
  clear hnn
  have HH := Aside0.mk H
  have hn := H.sa.ns
  have hn0 : (0 : Int) ≤ (ns : Int) := by omega
  have hn1 : (ns : Int) < (256 : Int) := by omega
  have e3 : ns * 2 = 2 * ns := Nat.mul_comm _ _
  have HF := Aside0.mk (Fr.refl (S := own B s okl oks) (w := w) H.size H.low)
  have HTh := Aside0.mk (fun W (hb : Below w.heap.size w W) => there_calls (ns : Int) hn0 hn1 W (H.sa.below hb))
  have hno : ∀ g, w.heap.size ≤ g → ¬ own B s okl oks g := fun g hg q => by have := HH.out.lt g q; omega
  have HNo := Aside0.mk hno
  clear H hno
  go_enter Tryd.func10, Tryd.ntmps10
  go_wp2_with (first
    | ((with_reducible refine gate_dst (N := 4) rfl ?_); refine box_event ?hg (N := 4) ?hd (cs := #[.bool false, .int .i64 0, .slice none 0 0]) (t := 29) ?hr ?_; (case hd => rfl); (case hg => rfl); (case hr => first | (go_simp; done) | (go_simp; rfl)); intro g4 hg4 w1 hbox hb; have HE4 := Aside0.mk (show w.heap.size ≤ g4 by omega); have HB1 := Aside0.mk hb; have B4 := Aside0.mk hbox; clear hb hbox hg4)
    | (go_at_call 24; (refine (HTh.out _ HB1.out).mono ?_); rintro e w2 ⟨rfl, hb⟩; have HB2 := Aside0.mk (below_step HB1.out hb); have B42 := Aside0.mk (blk_below B4.out hb); have HS2 := Aside0.mk (HH.out.below HB2.out); clear hb HB1 B4; have s0 : w2.cell? ⟨s, 3, none⟩ = some (.slice (some ⟨B.s, 0, none⟩) 256 256) := (blk_cell HS2.out.sa.blk 3).trans rfl; have c0 : w2.cell? ⟨B.s, 2 * ns, none⟩ = some (.slice Aq n cq) := HS2.out.sa.ats.1)
    | (go_at_call 25; (refine (lenG_calls B.s (2 * ns) Aq n cq _ c0).mono ?_); rintro e w3 ⟨rfl, rfl⟩)
    | (go_at_call 26; (refine (pop_cx HS2.out.cx HS2.out.size HS2.out.bs).mono ?_); rintro e w4 ⟨v4, ok4, rfl, hm, ho, hF⟩; have HS4 := Aside0.mk (HS2.out.counter hm ho hF); have HO4 := Aside0.mk (show ∀ k, (ok4 k ∧ k < w4.heap.size) → oks k ∨ w.heap.size ≤ k from fun k q => (ho k q.1).imp id (Nat.le_trans HB2.out.size)); have HF4 := Aside0.mk ((HF.out.below HB2.out).then_ hF (Nat.le_refl _) (fun k z => z.elim (fun e => .inl (.inl (.inr (.inr (.inr (.inr e)))))) (fun z => .inl (.inr (.inr z.1))))); have HN4 := Aside0.mk (show ¬ own B s okl (fun k => ok4 k ∧ k < w4.heap.size) g4 from fun q => by rcases q with q | q | q; exact HNo.out g4 HE4.out (.inl q); exact HNo.out g4 HE4.out (.inr (.inl q)); exact (ho g4 q.1).elim (fun p => HNo.out g4 HE4.out (.inr (.inr p))) (fun p => Nat.not_lt.2 p (blk_lt B42.out))); have B44 := Aside0.mk (blk_below (hF.blk B42.out (fun z => z.elim (fun e => HNo.out g4 HE4.out (.inl (.inr (.inr (.inr (.inr e)))))) (fun z => HNo.out g4 HE4.out (.inr (.inr z.1))))) (below_alloc (Below.refl _ _) (.cells #[.int .i64 x.f0, .int .i64 x.f1] 34 (0, 0)))); have HS5 := Aside0.mk (HS4.out.below (below_alloc (Below.refl _ _) (.cells #[.int .i64 x.f0, .int .i64 x.f1] 34 (0, 0)))); have HF5 := Aside0.mk (HF4.out.below (below_alloc (Below.refl _ _) (.cells #[.int .i64 x.f0, .int .i64 x.f1] 34 (0, 0)))); clear hm ho hF s0 c0 HS4 HF4 B42)
    | ((with_reducible refine gate_store (t := 29) (p := 4) (v := .tmp 28) rfl ?_); refine step_store rfl rfl rfl B44.out rfl (u := .agg #[.bool false, .int .i64 0, .slice (some ⟨w4.heap.size, 0, none⟩) 1 1]) (seg := [.bool false, .int .i64 0, .slice (some ⟨w4.heap.size, 0, none⟩) 1 1]) rfl rfl (by kernel_rfl) (by simp [Value.oneCell']) (Nat.le_refl 3) (cur' := #[.bool false, .int .i64 0, .slice (some ⟨w4.heap.size, 0, none⟩) 1 1]) rfl ?_; intro w8 hbs hgs hss; have HS8 := Aside0.mk (HS5.out.grown hgs HN4.out); have HF8 := Aside0.mk (HF5.out.grown hgs (.inr HE4.out)); have BF := Aside0.mk hbs; clear hbs hgs hss))
  refine bodyPost_ret (results_single (r := .cell 4 29) rfl (.cell g4 29 #[.bool false, .int .i64 0, .slice (some ⟨w4.heap.size, 0, none⟩) 1 1] (0, 0) _ rfl BF.out Tryd.underlying29 rfl (by kernel_rfl) .nil)) rfl ?_
  exact ⟨_, v4, _, rfl, HS8.out, HO4.out, HF8.out⟩
end Go.Proofs.YtielcanihooagaaDoor.PSemaExcludes

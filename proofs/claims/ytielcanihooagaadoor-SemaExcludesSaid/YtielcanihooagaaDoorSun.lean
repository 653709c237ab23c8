/- A mutex: Unlock, RUnlock, RLock. Conditions: each theorem's own. -/
import Derived.Test.YtielcanihooagaaDoorSre
set_option linter.unusedVariables false
set_option linter.unusedSimpArgs false
namespace Go.Proofs.YtielcanihooagaaDoor.PSemaExcludes
open Go.RowKit Go.Proofs.YtielcanihooagaaDoor.Ef Go.Proofs.YtielcanihooagaaDoor.Mp Go.Proofs.YtielcanihooagaaDoorW.PrintWords Go.Proofs.YtielcanihooagaaDoorW.PrintLast Go.Proofs.YtielcanihooagaaDoorW.PrintMore

set_option maxHeartbeats 4000000 in
set_option maxRecDepth 100000 in
theorem unlock_calls (base s : Nat) (B : Bk) (nl : Nat) (vl : Value) (okl : Nat → Prop) (ql : List S83) (rd : Int) (ns : Nat) (vs : Value) (oks : Nat → Prop) (qs : List S34) (cnt : Int) (w : World) (H : SY w base s B nl vl okl ql true rd ns vs oks qs cnt) (h0 : 0 ≤ rd) (hs : rd + (ql.length : Int) ≤ 3000000000000) {q' : List S83} {lo' : Bool} {rd' : Int} {wk : List S34} (hH : handM ql false (rd) = (q', lo', rd', wk)) :
    Calls Tryd.prog 13 #[.pointer (some ⟨s, 0, none⟩), .int .i64 (nl : Int)] w fun e w' => ∃ A c v' ok', e = .returned (.agg #[.bool false, .int .i64 0, .slice A wk.length c]) ∧ SY w' base s B nl v' ok' q' lo' rd' ns vs oks qs cnt ∧ k34.R 34 w' w.heap.size (fun k => w.heap.size ≤ k) (.slice A wk.length c) wk ∧ (∀ k, ok' k → okl k ∨ w.heap.size ≤ k) ∧ Fr base (own B s okl oks) w w' := by
  have hu63 := Tryd.underlying63
  have hu79 := Tryd.underlying79
  have hu29 := Tryd.underlying29
  have HH := Aside0.mk H
  have HE := Aside0.mk hH
  have hn := H.sa.nl
  have hn0 : (0 : Int) ≤ (nl : Int) := by omega
  have hn1 : (nl : Int) < (256 : Int) := by omega
  have e3 : nl * 3 = 3 * nl := Nat.mul_comm _ _
  have HF := Aside0.mk (Fr.refl (S := own B s okl oks) (w := w) H.size H.low)
  have HTh := Aside0.mk (fun W (hb : Below w.heap.size w W) => there_calls (nl : Int) hn0 hn1 W (H.sa.below hb))
  have HNo := Aside0.mk (show ∀ g, w.heap.size ≤ g → ¬ own B s okl oks g from fun g hg q => by have := H.lt g q; omega)
  clear H hH
  go_enter Tryd.func13, Tryd.ntmps13
  go_upto_region 6 with (first
    | ((with_reducible refine gate_dst (N := 4) rfl ?_); refine box_event ?hg (N := 4) ?hd (cs := #[.bool false, .int .i64 0, .slice none 0 0]) (t := 29) ?hr ?_; (case hd => rfl); (case hg => rfl); (case hr => first | (go_simp; done) | (go_simp; rfl)); intro g4 hg4 w1 hbox hb; have HE4 := Aside0.mk (show w.heap.size ≤ g4 by omega); have HB1 := Aside0.mk hb; have B4 := Aside0.mk hbox; clear hb hbox hg4)
    | (go_at_call 24; (refine (HTh.out _ HB1.out).mono ?_); rintro e w2 ⟨rfl, hb⟩; have HB2 := Aside0.mk (below_step HB1.out hb); have B42 := Aside0.mk (blk_below B4.out hb); have HS2 := Aside0.mk (HH.out.below HB2.out); clear hb HB1 B4; have s0 : w2.cell? ⟨s, 0, none⟩ = some (.slice (some ⟨B.l, 0, none⟩) 256 256) := (blk_cell HS2.out.sa.blk 0).trans rfl; have c1 : w2.cell? ⟨B.l, 3 * nl + 1, none⟩ = some (.bool true) := HS2.out.sa.atl.2.1; have z1 : w2.frozen? ⟨B.l, 3 * nl + 1, none⟩ = false := HS2.out.sa.atl.2.2.2.2.1))
  obtain ⟨hm, hg⟩ := HS2.out.mx.putl false
  have HF2s := Aside0.mk ((Fr.refl (S := fun k => k = B.l ∨ (okl k ∧ base ≤ k)) (w := w2) HS2.out.size (fun k q => q.elim (fun e => HS2.out.sa.low k (.inr (.inl e))) (fun q => q.2))).grown hg (.inl (.inl rfl)))
  have HS5 := Aside0.mk (HS2.out.mutex hm (fun k q => .inl q) HF2s.out)
  have HF5 := Aside0.mk ((HF.out.below HB2.out).then_ HF2s.out (Nat.le_refl _) (fun k z => z.elim (fun e => .inl (.inl (.inr (.inl e)))) (fun z => .inl (.inr (.inl z.1)))))
  have B45 := Aside0.mk (blk_grown B42.out hg (fun e => HNo.out _ HE4.out (.inl (.inr (.inl (Option.some.inj e))))))
  clear hm hg s0 c1 z1 HF2s HS2 B42
  generalize w2.setCell ⟨B.l, 3 * nl + 1, none⟩ (.bool false) = w5 at *
  have s0 : w5.cell? ⟨s, 0, none⟩ = some (.slice (some ⟨B.l, 0, none⟩) 256 256) := (blk_cell HS5.out.sa.blk 0).trans rfl
  go_wp2_with (first
    | (go_at_call 29; (refine (hand_calls base B.l nl vl _ ql false (rd) _ HS5.out.mx HS5.out.size HS5.out.bl (by omega) (by omega) HE.out).mono ?_); rintro e w6 ⟨v6, vo, rfl, hm, ho, hF⟩; (obtain ⟨Ao, co, rfl⟩ := Kd.R_slice ho); have HS6 := Aside0.mk (HS5.out.mutex hm (fun k q => .inl q) hF); have HO6 := Aside0.mk (Kd.R_mono (Kd.R_lower ho HF5.out.size) (fun k q => Nat.le_trans HF5.out.size q)); have HF6 := Aside0.mk (HF5.out.then_ hF (Nat.le_refl _) (fun k z => z.elim (fun e => .inl (.inl (.inr (.inl e)))) (fun z => .inl (.inr (.inl z.1.1))))); have HN6 := Aside0.mk (show ¬ own B s (fun k => (okl k ∧ k < w5.heap.size) ∧ k < w6.heap.size) oks g4 from fun q => by rcases q with q | q | q; exact HNo.out g4 HE4.out (.inl q); exact HNo.out g4 HE4.out (.inr (.inl q.1.1)); exact HNo.out g4 HE4.out (.inr (.inr q))); have B46 := Aside0.mk (hF.blk B45.out (fun z => z.elim (fun e => HNo.out g4 HE4.out (.inl (.inr (.inl e)))) (fun z => HNo.out g4 HE4.out (.inr (.inl z.1.1))))); clear hm ho hF s0)
    | ((with_reducible refine gate_store (t := 29) (p := 4) (v := .tmp 36) rfl ?_); refine step_store rfl rfl rfl B46.out rfl (u := .agg #[.bool false, .int .i64 0, .slice Ao wk.length co]) (seg := [.bool false, .int .i64 0, .slice Ao wk.length co]) rfl rfl (by kernel_rfl) (by simp [Value.oneCell']) (Nat.le_refl 3) (cur' := #[.bool false, .int .i64 0, .slice Ao wk.length co]) rfl ?_; intro w8 hbs hgs hss; have HS8 := Aside0.mk (HS6.out.grown hgs HN6.out); have HF8 := Aside0.mk (HF6.out.grown hgs (.inr HE4.out)); have HO8 := Aside0.mk (Kd.R_mono (Kd.R_grown (Kd.R_types HO6.out B46.out (by decide)) hgs (fun k q e => q.2 (Option.some.inj e))) (fun k q => q.1)); have BF := Aside0.mk hbs; clear hbs hgs hss))
  refine bodyPost_ret (results_single (r := .cell 4 29) rfl (.cell g4 29 #[.bool false, .int .i64 0, .slice Ao wk.length co] (0, 0) _ rfl BF.out Tryd.underlying29 rfl (by kernel_rfl) .nil)) rfl ?_
  exact ⟨Ao, co, v6, _, rfl, HS8.out, HO8.out, fun k q => .inl q.1.1, HF8.out⟩
set_option maxHeartbeats 4000000 in
set_option maxRecDepth 100000 in
theorem runlock_calls (base s : Nat) (B : Bk) (nl : Nat) (vl : Value) (okl : Nat → Prop) (ql : List S83) (rd : Int) (ns : Nat) (vs : Value) (oks : Nat → Prop) (qs : List S34) (cnt : Int) (w : World) (H : SY w base s B nl vl okl ql false rd ns vs oks qs cnt) (h0 : 0 < rd) (hs : rd + (ql.length : Int) ≤ 3000000000000) {q' : List S83} {lo' : Bool} {rd' : Int} {wk : List S34} (hH : handM ql false (rd - 1) = (q', lo', rd', wk)) :
    Calls Tryd.prog 14 #[.pointer (some ⟨s, 0, none⟩), .int .i64 (nl : Int)] w fun e w' => ∃ A c v' ok', e = .returned (.agg #[.bool false, .int .i64 0, .slice A wk.length c]) ∧ SY w' base s B nl v' ok' q' lo' rd' ns vs oks qs cnt ∧ k34.R 34 w' w.heap.size (fun k => w.heap.size ≤ k) (.slice A wk.length c) wk ∧ (∀ k, ok' k → okl k ∨ w.heap.size ≤ k) ∧ Fr base (own B s okl oks) w w' := by
  have hu63 := Tryd.underlying63
  have hu79 := Tryd.underlying79
  have hu29 := Tryd.underlying29
  have HH := Aside0.mk H
  have HE := Aside0.mk hH
  have hn := H.sa.nl
  have hn0 : (0 : Int) ≤ (nl : Int) := by omega
  have hn1 : (nl : Int) < (256 : Int) := by omega
  have e3 : nl * 3 = 3 * nl := Nat.mul_comm _ _
  have hng : (rd == 0) = false := by simp; omega
  have hwr : IntKind.i64.wrap (rd - 1) = rd - 1 := by simp [IntKind.wrap, IntKind.bits, IntKind.signed]; omega
  have HF := Aside0.mk (Fr.refl (S := own B s okl oks) (w := w) H.size H.low)
  have HTh := Aside0.mk (fun W (hb : Below w.heap.size w W) => there_calls (nl : Int) hn0 hn1 W (H.sa.below hb))
  have HNo := Aside0.mk (show ∀ g, w.heap.size ≤ g → ¬ own B s okl oks g from fun g hg q => by have := H.lt g q; omega)
  clear H hH
  go_enter Tryd.func14, Tryd.ntmps14
  go_upto_region 6 with (first
    | ((with_reducible refine gate_dst (N := 4) rfl ?_); refine box_event ?hg (N := 4) ?hd (cs := #[.bool false, .int .i64 0, .slice none 0 0]) (t := 29) ?hr ?_; (case hd => rfl); (case hg => rfl); (case hr => first | (go_simp; done) | (go_simp; rfl)); intro g4 hg4 w1 hbox hb; have HE4 := Aside0.mk (show w.heap.size ≤ g4 by omega); have HB1 := Aside0.mk hb; have B4 := Aside0.mk hbox; clear hb hbox hg4)
    | (go_at_call 24; (refine (HTh.out _ HB1.out).mono ?_); rintro e w2 ⟨rfl, hb⟩; have HB2 := Aside0.mk (below_step HB1.out hb); have B42 := Aside0.mk (blk_below B4.out hb); have HS2 := Aside0.mk (HH.out.below HB2.out); clear hb HB1 B4; have s0 : w2.cell? ⟨s, 0, none⟩ = some (.slice (some ⟨B.l, 0, none⟩) 256 256) := (blk_cell HS2.out.sa.blk 0).trans rfl; have c1 : w2.cell? ⟨B.l, 3 * nl + 2, none⟩ = some (.int .i64 rd) := HS2.out.sa.atl.2.2.1; have z1 : w2.frozen? ⟨B.l, 3 * nl + 2, none⟩ = false := HS2.out.sa.atl.2.2.2.2.2))
  obtain ⟨hm, hg⟩ := HS2.out.mx.putr (rd - 1)
  have HF2s := Aside0.mk ((Fr.refl (S := fun k => k = B.l ∨ (okl k ∧ base ≤ k)) (w := w2) HS2.out.size (fun k q => q.elim (fun e => HS2.out.sa.low k (.inr (.inl e))) (fun q => q.2))).grown hg (.inl (.inl rfl)))
  have HS5 := Aside0.mk (HS2.out.mutex hm (fun k q => .inl q) HF2s.out)
  have HF5 := Aside0.mk ((HF.out.below HB2.out).then_ HF2s.out (Nat.le_refl _) (fun k z => z.elim (fun e => .inl (.inl (.inr (.inl e)))) (fun z => .inl (.inr (.inl z.1)))))
  have B45 := Aside0.mk (blk_grown B42.out hg (fun e => HNo.out _ HE4.out (.inl (.inr (.inl (Option.some.inj e))))))
  clear hm hg s0 c1 z1 HF2s HS2 B42
  generalize w2.setCell ⟨B.l, 3 * nl + 2, none⟩ (.int .i64 (rd - 1)) = w5 at *
  have s0 : w5.cell? ⟨s, 0, none⟩ = some (.slice (some ⟨B.l, 0, none⟩) 256 256) := (blk_cell HS5.out.sa.blk 0).trans rfl
  go_wp2_with (first
    | (go_at_call 29; (refine (hand_calls base B.l nl vl _ ql false (rd - 1) _ HS5.out.mx HS5.out.size HS5.out.bl (by omega) (by omega) HE.out).mono ?_); rintro e w6 ⟨v6, vo, rfl, hm, ho, hF⟩; (obtain ⟨Ao, co, rfl⟩ := Kd.R_slice ho); have HS6 := Aside0.mk (HS5.out.mutex hm (fun k q => .inl q) hF); have HO6 := Aside0.mk (Kd.R_mono (Kd.R_lower ho HF5.out.size) (fun k q => Nat.le_trans HF5.out.size q)); have HF6 := Aside0.mk (HF5.out.then_ hF (Nat.le_refl _) (fun k z => z.elim (fun e => .inl (.inl (.inr (.inl e)))) (fun z => .inl (.inr (.inl z.1.1))))); have HN6 := Aside0.mk (show ¬ own B s (fun k => (okl k ∧ k < w5.heap.size) ∧ k < w6.heap.size) oks g4 from fun q => by rcases q with q | q | q; exact HNo.out g4 HE4.out (.inl q); exact HNo.out g4 HE4.out (.inr (.inl q.1.1)); exact HNo.out g4 HE4.out (.inr (.inr q))); have B46 := Aside0.mk (hF.blk B45.out (fun z => z.elim (fun e => HNo.out g4 HE4.out (.inl (.inr (.inl e)))) (fun z => HNo.out g4 HE4.out (.inr (.inl z.1.1))))); clear hm ho hF s0)
    | ((with_reducible refine gate_store (t := 29) (p := 4) (v := .tmp 40) rfl ?_); refine step_store rfl rfl rfl B46.out rfl (u := .agg #[.bool false, .int .i64 0, .slice Ao wk.length co]) (seg := [.bool false, .int .i64 0, .slice Ao wk.length co]) rfl rfl (by kernel_rfl) (by simp [Value.oneCell']) (Nat.le_refl 3) (cur' := #[.bool false, .int .i64 0, .slice Ao wk.length co]) rfl ?_; intro w8 hbs hgs hss; have HS8 := Aside0.mk (HS6.out.grown hgs HN6.out); have HF8 := Aside0.mk (HF6.out.grown hgs (.inr HE4.out)); have HO8 := Aside0.mk (Kd.R_mono (Kd.R_grown (Kd.R_types HO6.out B46.out (by decide)) hgs (fun k q e => q.2 (Option.some.inj e))) (fun k q => q.1)); have BF := Aside0.mk hbs; clear hbs hgs hss))
  refine bodyPost_ret (results_single (r := .cell 4 29) rfl (.cell g4 29 #[.bool false, .int .i64 0, .slice Ao wk.length co] (0, 0) _ rfl BF.out Tryd.underlying29 rfl (by kernel_rfl) .nil)) rfl ?_
  exact ⟨Ao, co, v6, _, rfl, HS8.out, HO8.out, fun k q => .inl q.1.1, HF8.out⟩
set_option maxHeartbeats 4000000 in
set_option maxRecDepth 100000 in
theorem rlock_calls (base s : Nat) (B : Bk) (nl : Nat) (vl : Value) (okl : Nat → Prop) (ql : List S83) (lo : Bool) (rd : Int) (ns : Nat) (vs : Value) (oks : Nat → Prop) (qs : List S34) (cnt : Int) (a b : Int) (w : World) (H : SY w base s B nl vl okl ql lo rd ns vs oks qs cnt) (h1 : ∀ x ∈ ql, (x.f0.f0 == a && x.f0.f1 == b) = false) (h2 : ∀ x ∈ qs, (x.f0 == a && x.f1 == b) = false) (h0 : 0 ≤ rd) (hs : rd + (ql.length : Int) ≤ 3000000000000) {q' : List S83} {lo' : Bool} {rd' : Int} {wk : List S34} (hH : handM (ql ++ [⟨⟨a, b⟩, true⟩]) lo rd = (q', lo', rd', wk)) (hwk : wk.length ≤ 4000000000000) :
    Calls Tryd.prog 12 #[.pointer (some ⟨s, 0, none⟩), .int .i64 (nl : Int), .agg #[.int .i64 a, .int .i64 b]] w fun e w' => ∃ v' ok', e = .returned (.tuple #[.agg #[.bool (!inG a b wk), .int .i64 0, .slice none 0 0], .int .i64 0]) ∧ SY w' base s B nl v' ok' q' lo' rd' ns vs oks qs cnt ∧ (∀ k, ok' k → okl k ∨ w.heap.size ≤ k) ∧ Fr base (own B s okl oks) w w' := by
  have hu63 := Tryd.underlying63
  have hu79 := Tryd.underlying79
  have hu29 := Tryd.underlying29
  have HH := Aside0.mk H
  have HE := Aside0.mk hH
  have hn := H.sa.nl
  have hn0 : (0 : Int) ≤ (nl : Int) := by omega
  have hn1 : (nl : Int) < (256 : Int) := by omega
  have HLa := Aside0.mk (fun W g (hb : Below w.heap.size w W) (hg : W.cell? ⟨g, 0, none⟩ = some (.int .i64 (nl : Int))) => late_calls ql qs a b g 1 (nl : Int) W (H.sa.below hb) (H.ln.below hb) h1 h2 hg hn0 hn1)
  have HF := Aside0.mk (Fr.refl (S := own B s okl oks) (w := w) H.size H.low)
  clear H hH h1 h2
  go_enter Tryd.func12, Tryd.ntmps12
  go_upto_region 3 with (first
    | ((with_reducible refine gate_dst (N := 5) rfl ?_); refine box_event ?hg (N := 5) ?hd (cs := #[.int .i64 a, .int .i64 b]) (t := 34) ?hr ?_; (case hd => rfl); (case hg => rfl); (case hr => first | (go_simp; done) | (go_simp; rfl)); intro g5 hg5 w1 hbox hb; have HE5 := Aside0.mk (show w.heap.size ≤ g5 by omega); have HB1 := Aside0.mk hb; have B5 := Aside0.mk hbox; clear hb hbox hg5)
    | ((with_reducible refine gate_dst (N := 6) rfl ?_); refine box_event ?hg (N := 6) ?hd (cs := #[.bool false, .int .i64 0, .slice none 0 0]) (t := 29) ?hr ?_; (case hd => rfl); (case hg => rfl); (case hr => first | (go_simp; done) | (go_simp; rfl)); intro g6 hg6 w2 hbox hb; have HE6 := Aside0.mk (show w.heap.size ≤ g6 from by have := HB1.out.size; omega); have HB2 := Aside0.mk (below_step HB1.out hb); have B52 := Aside0.mk (blk_below B5.out hb); have B6 := Aside0.mk hbox; clear hb hbox hg6 HB1 B5; have x0 : w2.cell? ⟨g5, 0, none⟩ = some (.int .i64 a) := (blk_cell B52.out 0).trans rfl; have x1 : w2.cell? ⟨g5, 1, none⟩ = some (.int .i64 b) := (blk_cell B52.out 1).trans rfl)
    | (go_at_call 22; (refine (HLa.out _ _ (below_alloc HB2.out _) ?cc).mono ?_); (case cc => exact (blk_cell (blk_new _ _) 0).trans rfl); rintro e w3 ⟨rfl, hb⟩; have HB3 := Aside0.mk (below_step (below_alloc HB2.out _) hb); have B53 := Aside0.mk (blk_below (blk_below B52.out (below_alloc (Below.refl _ _) _)) hb); have B63 := Aside0.mk (blk_below (blk_below B6.out (below_alloc (Below.refl _ _) _)) hb); clear hb B52 B6 x0 x1)
    | ((with_reducible refine gate_dst (N := 8) rfl ?_); refine box_event ?hg (N := 8) ?hd (cs := #[.bool false, .int .i64 0, .slice none 0 0]) (t := 29) ?hr ?_; (case hd => rfl); (case hg => rfl); (case hr => first | (go_simp; done) | (go_simp; rfl)); intro g8 hg8 w4 hbox hb; have HE8 := Aside0.mk (show w.heap.size ≤ g8 from by have := HB3.out.size; omega); have HN85 := Aside0.mk (show g8 ≠ g5 from by have := blk_lt B53.out; omega); have HN86 := Aside0.mk (show g8 ≠ g6 from by have := blk_lt B63.out; omega); have HB4 := Aside0.mk (below_step HB3.out hb); have B54 := Aside0.mk (blk_below B53.out hb); have B64 := Aside0.mk (blk_below B63.out hb); have B8 := Aside0.mk hbox; clear hb hbox hg8 HB3 B53 B63)
    | ((with_reducible refine gate_store (t := 29) (p := 8) (v := .tmp 18) rfl ?_); refine step_store rfl rfl rfl B8.out rfl (u := .agg #[.bool false, .int .i64 0, .slice none 0 0]) (seg := [.bool false, .int .i64 0, .slice none 0 0]) rfl rfl (by kernel_rfl) (by simp [Value.oneCell']) (Nat.le_refl 3) (cur' := #[.bool false, .int .i64 0, .slice none 0 0]) rfl ?_; intro w5 hbs hgs hss; have HB5 := Aside0.mk (below_mput HB4.out hgs HE8.out HB4.out.size); have B55 := Aside0.mk (blk_grown B54.out hgs (fun e => HN85.out (Option.some.inj e).symm)); have B65 := Aside0.mk (blk_grown B64.out hgs (fun e => HN86.out (Option.some.inj e).symm)); have B85 := Aside0.mk hbs; clear hbs hgs hss HB4 B54 B64 B8))
  have HS5 := Aside0.mk (HH.out.below HB5.out)
  have HF5 := Aside0.mk (HF.out.below HB5.out)
  have hno : ∀ g, w.heap.size ≤ g → ¬ own B s okl oks g := fun g hg q => by have := HH.out.lt g q; omega
  have x0 : w5.cell? ⟨g5, 0, none⟩ = some (.int .i64 a) := (blk_cell B55.out 0).trans rfl
  have x1 : w5.cell? ⟨g5, 1, none⟩ = some (.int .i64 b) := (blk_cell B55.out 1).trans rfl
  have s0 : w5.cell? ⟨s, 0, none⟩ = some (.slice (some ⟨B.l, 0, none⟩) 256 256) := (blk_cell HS5.out.sa.blk 0).trans rfl
  have t0 : w5.cell? ⟨g8, 0, none⟩ = some (.bool false) := (blk_cell B85.out 0).trans rfl
  have z0 := blk_frozen B85.out 0
  have e3 : nl * 3 = 3 * nl := Nat.mul_comm _ _
  have hmx : (rd == 9223372036854775807) = false := by simp; omega
  obtain ⟨Aq, cq, rfl⟩ := Kd.R_slice HH.out.rl
  have c0 : w5.cell? ⟨B.l, 3 * nl, none⟩ = some (.slice Aq ql.length cq) := HS5.out.sa.atl.1
  have c1 : w5.cell? ⟨B.l, 3 * nl + 1, none⟩ = some (.bool lo) := HS5.out.sa.atl.2.1
  have c2 : w5.cell? ⟨B.l, 3 * nl + 2, none⟩ = some (.int .i64 rd) := HS5.out.sa.atl.2.2.1
  have HLn := Aside0.mk (lenL_calls B.l (3 * nl) Aq ql.length cq w5 c0)
  have HAk := Aside0.mk (fun W (hb : Below w5.heap.size w5 W) => ask_calls base B.l nl (.slice Aq ql.length cq) okl ql lo rd a b true W ((HS5.out.below hb).mx) (HS5.out.below hb).size (HS5.out.below hb).bl h0 hs HE.out hwk)
  have hlq : (ql.length : Int) = 0 ∨ ¬ (ql.length : Int) = 0 := Classical.em _
  cases lo with
  | true =>
    go_upto_region 6 with (fail)
    clear c0 c1 c2
    go_region_with (go_at_call 27; (refine (HAk.out _ (pw_below_drewN (Below.refl _ _) 1)).mono ?_); rintro e w6 ⟨v6, ok6, rfl, hm, ho, hF⟩; have HS6 := Aside0.mk ((HS5.out.below (pw_below_drewN (Below.refl _ _) 1)).mutex hm ho hF); have HO6 := Aside0.mk (show ∀ k, (ok6 k ∧ k < w6.heap.size) → okl k ∨ w.heap.size ≤ k from fun k q => (ho k q.1).imp id (Nat.le_trans HB5.out.size)); have HF6 := Aside0.mk ((HF5.out.drewN 1).then_ hF (Nat.le_refl _) (fun k z => z.elim (fun e => .inl (.inl (.inr (.inl e)))) (fun z => .inl (.inr (.inl z.1))))); have HN6 := Aside0.mk (show ∀ g, w.heap.size ≤ g → g < w5.heap.size → ¬ own B s (fun k => ok6 k ∧ k < w6.heap.size) oks g from fun g q1 q2 q => by rcases q with q | q | q; exact hno g q1 (.inl q); exact (ho g q.1).elim (fun p => hno g q1 (.inr (.inl p))) (fun p => Nat.not_lt.2 p q2); exact hno g q1 (.inr (.inr q))); have hnx : ∀ g, w.heap.size ≤ g → ¬ (g = B.l ∨ (okl g ∧ base ≤ g)) := (fun g hg z => z.elim (fun e => hno g hg (.inl (.inr (.inl e)))) (fun z => hno g hg (.inr (.inl z.1)))); have B66 := Aside0.mk (hF.blk (w := w5.drewN 1) B65.out (hnx _ HE6.out)); have B86 := Aside0.mk (hF.blk (w := w5.drewN 1) B85.out (hnx _ HE8.out)); clear hm ho hF hnx x0 x1 s0 t0 z0; have t0 : w6.cell? ⟨g8, 0, none⟩ = some (.bool false) := (blk_cell B86.out 0).trans rfl; have z0 := blk_frozen B86.out 0)
    all_goals
      obtain ⟨hb7, hg7⟩ := set_step B86.out 0 (.bool (!inG a b wk)) (cur' := #[.bool (!inG a b wk), .int .i64 0, .slice none 0 0]) rfl
      have HS7 := Aside0.mk (HS6.out.grown hg7 (HN6.out _ HE8.out (blk_lt B85.out)))
      have HF7 := Aside0.mk (HF6.out.grown hg7 (.inr HE8.out))
      have B67 := Aside0.mk (blk_grown B66.out hg7 (fun e => HN86.out (Option.some.inj e).symm))
      have B87 := Aside0.mk hb7
      clear hb7 hg7 t0 z0
      generalize w6.setCell ⟨g8, 0, none⟩ (.bool (!inG a b wk)) = w7 at *
      have t0 : w7.cell? ⟨g8, 0, none⟩ = some (.bool (!inG a b wk)) := (blk_cell B87.out 0).trans rfl
      have t1 : w7.cell? ⟨g8, 1, none⟩ = some (.int .i64 0) := (blk_cell B87.out 1).trans rfl
      have t2 : w7.cell? ⟨g8, 2, none⟩ = some (.slice none 0 0) := (blk_cell B87.out 2).trans rfl
      go_wp2_with ((with_reducible refine gate_store (t := 29) (p := 6) (v := .tmp 57) rfl ?_); refine step_store rfl rfl rfl B67.out rfl (u := .agg #[.bool (!inG a b wk), .int .i64 0, .slice none 0 0]) (seg := [.bool (!inG a b wk), .int .i64 0, .slice none 0 0]) rfl rfl (by kernel_rfl) (by simp [Value.oneCell']) (Nat.le_refl 3) (cur' := #[.bool (!inG a b wk), .int .i64 0, .slice none 0 0]) rfl ?_; intro w8 hbs hgs hss; have HS8 := Aside0.mk (HS7.out.grown hgs (HN6.out _ HE6.out (blk_lt B65.out))); have HF8 := Aside0.mk (HF7.out.grown hgs (.inr HE6.out)); have BF := Aside0.mk hbs; clear hbs hgs hss)
      refine bodyPost_ret (results_list (rs := [.cell 6 29, .tmp 7]) rfl (by simp) (.cell g6 29 #[.bool (!inG a b wk), .int .i64 0, .slice none 0 0] (0, 0) _ rfl BF.out Tryd.underlying29 rfl (by kernel_rfl) (.tmp .nil))) rfl ?_
      exact ⟨v6, _, rfl, HS8.out, HO6.out, HF8.out⟩
  | false =>
    rcases hlq with hlq | hlq
    · have hlb : ((ql.length : Int) == 0) = true := by simpa using hlq
      go_upto_region 6 with (go_at_call 28; (refine HLn.out.mono ?_); rintro e wl ⟨rfl, rfl⟩)
      clear c0 c1 c2
      go_region_with (go_at_call 27; (refine (HAk.out _ (pw_below_drewN (Below.refl _ _) 1)).mono ?_); rintro e w6 ⟨v6, ok6, rfl, hm, ho, hF⟩; have HS6 := Aside0.mk ((HS5.out.below (pw_below_drewN (Below.refl _ _) 1)).mutex hm ho hF); have HO6 := Aside0.mk (show ∀ k, (ok6 k ∧ k < w6.heap.size) → okl k ∨ w.heap.size ≤ k from fun k q => (ho k q.1).imp id (Nat.le_trans HB5.out.size)); have HF6 := Aside0.mk ((HF5.out.drewN 1).then_ hF (Nat.le_refl _) (fun k z => z.elim (fun e => .inl (.inl (.inr (.inl e)))) (fun z => .inl (.inr (.inl z.1))))); have HN6 := Aside0.mk (show ∀ g, w.heap.size ≤ g → g < w5.heap.size → ¬ own B s (fun k => ok6 k ∧ k < w6.heap.size) oks g from fun g q1 q2 q => by rcases q with q | q | q; exact hno g q1 (.inl q); exact (ho g q.1).elim (fun p => hno g q1 (.inr (.inl p))) (fun p => Nat.not_lt.2 p q2); exact hno g q1 (.inr (.inr q))); have hnx : ∀ g, w.heap.size ≤ g → ¬ (g = B.l ∨ (okl g ∧ base ≤ g)) := (fun g hg z => z.elim (fun e => hno g hg (.inl (.inr (.inl e)))) (fun z => hno g hg (.inr (.inl z.1)))); have B66 := Aside0.mk (hF.blk (w := w5.drewN 1) B65.out (hnx _ HE6.out)); have B86 := Aside0.mk (hF.blk (w := w5.drewN 1) B85.out (hnx _ HE8.out)); clear hm ho hF hnx x0 x1 s0 t0 z0; have t0 : w6.cell? ⟨g8, 0, none⟩ = some (.bool false) := (blk_cell B86.out 0).trans rfl; have z0 := blk_frozen B86.out 0)
      all_goals
        obtain ⟨hb7, hg7⟩ := set_step B86.out 0 (.bool (!inG a b wk)) (cur' := #[.bool (!inG a b wk), .int .i64 0, .slice none 0 0]) rfl
        have HS7 := Aside0.mk (HS6.out.grown hg7 (HN6.out _ HE8.out (blk_lt B85.out)))
        have HF7 := Aside0.mk (HF6.out.grown hg7 (.inr HE8.out))
        have B67 := Aside0.mk (blk_grown B66.out hg7 (fun e => HN86.out (Option.some.inj e).symm))
        have B87 := Aside0.mk hb7
        clear hb7 hg7 t0 z0
        generalize w6.setCell ⟨g8, 0, none⟩ (.bool (!inG a b wk)) = w7 at *
        have t0 : w7.cell? ⟨g8, 0, none⟩ = some (.bool (!inG a b wk)) := (blk_cell B87.out 0).trans rfl
        have t1 : w7.cell? ⟨g8, 1, none⟩ = some (.int .i64 0) := (blk_cell B87.out 1).trans rfl
        have t2 : w7.cell? ⟨g8, 2, none⟩ = some (.slice none 0 0) := (blk_cell B87.out 2).trans rfl
        go_wp2_with ((with_reducible refine gate_store (t := 29) (p := 6) (v := .tmp 57) rfl ?_); refine step_store rfl rfl rfl B67.out rfl (u := .agg #[.bool (!inG a b wk), .int .i64 0, .slice none 0 0]) (seg := [.bool (!inG a b wk), .int .i64 0, .slice none 0 0]) rfl rfl (by kernel_rfl) (by simp [Value.oneCell']) (Nat.le_refl 3) (cur' := #[.bool (!inG a b wk), .int .i64 0, .slice none 0 0]) rfl ?_; intro w8 hbs hgs hss; have HS8 := Aside0.mk (HS7.out.grown hgs (HN6.out _ HE6.out (blk_lt B65.out))); have HF8 := Aside0.mk (HF7.out.grown hgs (.inr HE6.out)); have BF := Aside0.mk hbs; clear hbs hgs hss)
        refine bodyPost_ret (results_list (rs := [.cell 6 29, .tmp 7]) rfl (by simp) (.cell g6 29 #[.bool (!inG a b wk), .int .i64 0, .slice none 0 0] (0, 0) _ rfl BF.out Tryd.underlying29 rfl (by kernel_rfl) (.tmp .nil))) rfl ?_
        exact ⟨v6, _, rfl, HS8.out, HO6.out, HF8.out⟩
    · have hlb : ((ql.length : Int) == 0) = false := by simpa using hlq
      go_upto_region 6 with (go_at_call 28; (refine HLn.out.mono ?_); rintro e wl ⟨rfl, rfl⟩)
      clear c0 c1 c2
      go_region_with (go_at_call 27; (refine (HAk.out _ (pw_below_drewN (Below.refl _ _) 1)).mono ?_); rintro e w6 ⟨v6, ok6, rfl, hm, ho, hF⟩; have HS6 := Aside0.mk ((HS5.out.below (pw_below_drewN (Below.refl _ _) 1)).mutex hm ho hF); have HO6 := Aside0.mk (show ∀ k, (ok6 k ∧ k < w6.heap.size) → okl k ∨ w.heap.size ≤ k from fun k q => (ho k q.1).imp id (Nat.le_trans HB5.out.size)); have HF6 := Aside0.mk ((HF5.out.drewN 1).then_ hF (Nat.le_refl _) (fun k z => z.elim (fun e => .inl (.inl (.inr (.inl e)))) (fun z => .inl (.inr (.inl z.1))))); have HN6 := Aside0.mk (show ∀ g, w.heap.size ≤ g → g < w5.heap.size → ¬ own B s (fun k => ok6 k ∧ k < w6.heap.size) oks g from fun g q1 q2 q => by rcases q with q | q | q; exact hno g q1 (.inl q); exact (ho g q.1).elim (fun p => hno g q1 (.inr (.inl p))) (fun p => Nat.not_lt.2 p q2); exact hno g q1 (.inr (.inr q))); have hnx : ∀ g, w.heap.size ≤ g → ¬ (g = B.l ∨ (okl g ∧ base ≤ g)) := (fun g hg z => z.elim (fun e => hno g hg (.inl (.inr (.inl e)))) (fun z => hno g hg (.inr (.inl z.1)))); have B66 := Aside0.mk (hF.blk (w := w5.drewN 1) B65.out (hnx _ HE6.out)); have B86 := Aside0.mk (hF.blk (w := w5.drewN 1) B85.out (hnx _ HE8.out)); clear hm ho hF hnx x0 x1 s0 t0 z0; have t0 : w6.cell? ⟨g8, 0, none⟩ = some (.bool false) := (blk_cell B86.out 0).trans rfl; have z0 := blk_frozen B86.out 0)
      all_goals
        obtain ⟨hb7, hg7⟩ := set_step B86.out 0 (.bool (!inG a b wk)) (cur' := #[.bool (!inG a b wk), .int .i64 0, .slice none 0 0]) rfl
        have HS7 := Aside0.mk (HS6.out.grown hg7 (HN6.out _ HE8.out (blk_lt B85.out)))
        have HF7 := Aside0.mk (HF6.out.grown hg7 (.inr HE8.out))
        have B67 := Aside0.mk (blk_grown B66.out hg7 (fun e => HN86.out (Option.some.inj e).symm))
        have B87 := Aside0.mk hb7
        clear hb7 hg7 t0 z0
        generalize w6.setCell ⟨g8, 0, none⟩ (.bool (!inG a b wk)) = w7 at *
        have t0 : w7.cell? ⟨g8, 0, none⟩ = some (.bool (!inG a b wk)) := (blk_cell B87.out 0).trans rfl
        have t1 : w7.cell? ⟨g8, 1, none⟩ = some (.int .i64 0) := (blk_cell B87.out 1).trans rfl
        have t2 : w7.cell? ⟨g8, 2, none⟩ = some (.slice none 0 0) := (blk_cell B87.out 2).trans rfl
        go_wp2_with ((with_reducible refine gate_store (t := 29) (p := 6) (v := .tmp 57) rfl ?_); refine step_store rfl rfl rfl B67.out rfl (u := .agg #[.bool (!inG a b wk), .int .i64 0, .slice none 0 0]) (seg := [.bool (!inG a b wk), .int .i64 0, .slice none 0 0]) rfl rfl (by kernel_rfl) (by simp [Value.oneCell']) (Nat.le_refl 3) (cur' := #[.bool (!inG a b wk), .int .i64 0, .slice none 0 0]) rfl ?_; intro w8 hbs hgs hss; have HS8 := Aside0.mk (HS7.out.grown hgs (HN6.out _ HE6.out (blk_lt B65.out))); have HF8 := Aside0.mk (HF7.out.grown hgs (.inr HE6.out)); have BF := Aside0.mk hbs; clear hbs hgs hss)
        refine bodyPost_ret (results_list (rs := [.cell 6 29, .tmp 7]) rfl (by simp) (.cell g6 29 #[.bool (!inG a b wk), .int .i64 0, .slice none 0 0] (0, 0) _ rfl BF.out Tryd.underlying29 rfl (by kernel_rfl) (.tmp .nil))) rfl ?_
        exact ⟨v6, _, rfl, HS8.out, HO6.out, HF8.out⟩
end Go.Proofs.YtielcanihooagaaDoor.PSemaExcludes

/- begin. Conditions: each theorem's own. -/
import Derived.Test.YtceopcfmhidjlaaTca
set_option linter.unusedVariables false
set_option linter.unusedSimpArgs false
namespace Go.Proofs.Ytceopcfmhidjlaa.PTimerPlays
open Go.RowKit Go.Proofs.Ytceopcfmhidjlaa.Ef Go.Proofs.Ytceopcfmhidjlaa.Mp Go.Proofs.Ytceopcfmhidjlaa.Hp Go.Proofs.YtceopcfmhidjlaaW.PrintWords Go.Proofs.YtceopcfmhidjlaaW.PrintLast Go.Proofs.YtceopcfmhidjlaaW.PrintMore

def TS.begin (S : TS) (x : Tm) (now ticks : Int) : TS := ({ S with last := S.last + 1 } : TS).arm { x with f0 := S.last + 1, f4 := ltr now ticks, f5 := nvr now ticks }
theorem Good.up {S : TS} {ids own : List (Int × Value)} {gs : List ((Int × Int) × Value)} (G : Good S ids own gs) : Good { S with last := S.last + 1 } ids own gs :=
  { G with idl := fun x hx => by have := G.idl x hx; show x.f0 ≤ S.last + 1; omega, l0 := by have := G.l0; show 0 ≤ S.last + 1; omega }
theorem run_lenM {P : Program} {K E T : TypeId} {κ : Type} {enc : κ → Value} (hT : P.underlying T = some (.map K E)) {w : World} {b : Nat} {l : List (κ × Value)} (hM : MapOf enc w b l) (X : TypeId) :
    (Builtin.len_ #[T] X #[.map (some b)]).run P w = .ok (.int .i64 (l.length : Int)) w := by
  obtain ⟨es, cl, hb, he⟩ := hM.size_
  unfold Builtin.len_
  have hg : (getObj b).run P w = .ok (.map es cl) w := by simp [getObj, Sem.run, hb]
  simp only [List.getElem?_toArray, List.getElem?_cons_zero, Sem.run_bind, run_underlying hT, Result.andThen_ok, hg, Sem.run_pure, he]
  rfl
set_option maxHeartbeats 1000000 in
set_option maxRecDepth 100000 in
theorem begin_full (base p : Nat) (ok : Nat → Prop) (S : TS) (xk xs xg xc xp now ticks : Int) (w : World) (H : TP w base p ok S) (hf : 1024 ≤ S.all.length ∨ S.last = 9223372036854775807) :
    Calls Try.prog 27 #[.pointer (some ⟨p, 0, none⟩), .agg #[.int .i64 0, .int .i64 xk, .int .i64 xs, .int .i64 xg, .int .i64 xc, .int .u64 0, .bool false, .int .u64 xp], .int .u64 now, .int .u64 ticks] w fun e w' => e = .returned (.tuple #[.int .i64 0, .int .i64 2]) ∧ Below w.heap.size w w' := by
  obtain ⟨P, v, ids, own, gs, rfl, rfl, hA, hG⟩ := H
  have hl : (ids.length : Int) = S.all.length := by rw [ids_len hG]
  have HH := Aside0.mk hA
  have HB := Aside0.mk (Below.refl w.heap.size w)
  clear hA
  by_cases h1 : 1024 ≤ S.all.length
  · have h2 : ((1024 : Int) ≤ (S.all.length : Int)) := by omega
    go_enter Try.func27, Try.ntmps27
    go_wp2_with ((with_reducible refine gate_dst (N := 5) rfl ?_); refine box_event ?hg (N := 5) ?hd (cs := #[.int .i64 0, .int .i64 xk, .int .i64 xs, .int .i64 xg, .int .i64 xc, .int .u64 0, .bool false, .int .u64 xp]) (t := 40) ?hr ?_; (case hd => rfl); (case hg => rfl); (case hr => first | (go_simp; done) | (go_simp; rfl)); intro g5 hg5 w1 hbox hb; have HB1 := Aside0.mk hb; have hlen : (Builtin.len_ #[54] 3 #[.map (some P.bi)]).run Try.prog w1 = .ok (.int .i64 (S.all.length : Int)) w1 := by { have h := run_lenM Try.underlying54 (HH.out.below hb).mi.of 3; rw [h, hl] }; have pi : w1.cell? ⟨P.p, 4, none⟩ = some (.map (some P.bi)) := (blk_cell (HH.out.below hb).blk 4).trans rfl; have pl : w1.cell? ⟨P.p, 1, none⟩ = some (.int .i64 S.last) := (blk_cell (HH.out.below hb).blk 1).trans rfl; clear hb hbox hg5)
    go_ret2
    exact ⟨rfl, HB1.out⟩
  · have h2 : ¬ ((1024 : Int) ≤ (S.all.length : Int)) := by omega
    have h3 : S.last = 9223372036854775807 := hf.resolve_left h1
    have h4 : (S.last == 9223372036854775807) = true := by rw [h3]; rfl
    go_enter Try.func27, Try.ntmps27
    go_wp2_with ((with_reducible refine gate_dst (N := 5) rfl ?_); refine box_event ?hg (N := 5) ?hd (cs := #[.int .i64 0, .int .i64 xk, .int .i64 xs, .int .i64 xg, .int .i64 xc, .int .u64 0, .bool false, .int .u64 xp]) (t := 40) ?hr ?_; (case hd => rfl); (case hg => rfl); (case hr => first | (go_simp; done) | (go_simp; rfl)); intro g5 hg5 w1 hbox hb; have HB1 := Aside0.mk hb; have hlen : (Builtin.len_ #[54] 3 #[.map (some P.bi)]).run Try.prog w1 = .ok (.int .i64 (S.all.length : Int)) w1 := by { have h := run_lenM Try.underlying54 (HH.out.below hb).mi.of 3; rw [h, hl] }; have pi : w1.cell? ⟨P.p, 4, none⟩ = some (.map (some P.bi)) := (blk_cell (HH.out.below hb).blk 4).trans rfl; have pl : w1.cell? ⟨P.p, 1, none⟩ = some (.int .i64 S.last) := (blk_cell (HH.out.below hb).blk 1).trans rfl; clear hb hbox hg5)
    go_ret2
    exact ⟨rfl, HB1.out⟩
set_option maxHeartbeats 4000000 in
set_option maxRecDepth 100000 in
theorem begin_ok (base p : Nat) (ok : Nat → Prop) (S : TS) (xk xs xg xc xp now ticks : Int) (w : World) (H : TP w base p ok S) (hlen' : S.all.length < 1024) (hlast : S.last < 9223372036854775807) (hn1 : S.next ≤ 1000000000000000000) (hg : xk = 1 → ∀ y ∈ S.sl, gk y ≠ (xs, xg))
    (ha : 0 ≤ now) (ha1 : now < 18446744073709551616) (hb : 0 ≤ ticks) (hb1 : ticks < 18446744073709551616) :
    Calls Try.prog 27 #[.pointer (some ⟨p, 0, none⟩), .agg #[.int .i64 0, .int .i64 xk, .int .i64 xs, .int .i64 xg, .int .i64 xc, .int .u64 0, .bool false, .int .u64 xp], .int .u64 now, .int .u64 ticks] w fun e w' => ∃ ok', e = .returned (.tuple #[.int .i64 (S.last + 1), .int .i64 0]) ∧ TP w' base p ok' (S.begin ⟨0, xk, ⟨xs, xg⟩, xc, 0, false, xp⟩ now ticks) ∧ (∀ k, ok' k → ok k ∨ w.heap.size ≤ k) ∧ Fr base ok w w' := by
  obtain ⟨P, v, ids, own, gs, rfl, rfl, hA, hG⟩ := H
  have hl : (ids.length : Int) = S.all.length := by rw [ids_len hG]
  have h2 : ¬ ((1024 : Int) ≤ (S.all.length : Int)) := by omega
  have h4 : (S.last == 9223372036854775807) = false := by simp; omega
  have h5 := hG.l0
  have h6 : IntKind.i64.wrap (S.last + 1) = S.last + 1 := by simp [IntKind.wrap, IntKind.bits, IntKind.signed]; omega
  have HX : Aside0 (Fresh { S with last := S.last + 1 } ⟨S.last + 1, xk, ⟨xs, xg⟩, xc, ltr now ticks, nvr now ticks, xp⟩) := ⟨⟨fun y hy e => by have := hG.idl y hy; simp only at e; omega, hg, Int.le_refl _, hlen'⟩⟩
  have HG := Aside0.mk hG.up
  have HH := Aside0.mk hA
  have HF := Aside0.mk (Fr.refl hA.le hA.fine.low)
  clear hA hG hg
  have HT := Aside0.mk (tick_add now ticks ha ha1 hb hb1)
  have infoL : (Try.prog.info? 2).map (·.size) = some 1 := by kernel_rfl
  have infoU : (Try.prog.info? 22).map (·.size) = some 1 := by kernel_rfl
  have infoB : (Try.prog.info? 4).map (·.size) = some 1 := by kernel_rfl
  clear ha ha1 hb hb1
  unfold TS.begin
  cases hnv : nvr now ticks with
  | false =>
    simp only [hnv, if_true, if_false, Bool.false_eq_true] at HT HX
    go_enter Try.func27, Try.ntmps27
    go_wp2_with (first
      | (with_reducible refine gate_dst (N := 5) rfl ?_); refine box_event ?hg (N := 5) ?hd (cs := #[.int .i64 0, .int .i64 xk, .int .i64 xs, .int .i64 xg, .int .i64 xc, .int .u64 0, .bool false, .int .u64 xp]) (t := 40) ?hr ?_; (case hd => rfl); (case hg => rfl); (case hr => first | (go_simp; done) | (go_simp; rfl)); intro g5 hg5 w1 hbox hb; have HB1 := Aside0.mk hb; have hlen : (Builtin.len_ #[54] 3 #[.map (some P.bi)]).run Try.prog w1 = .ok (.int .i64 (S.all.length : Int)) w1 := by { have h := run_lenM Try.underlying54 (HH.out.below hb).mi.of 3; rw [h, hl] }; have pi : w1.cell? ⟨P.p, 4, none⟩ = some (.map (some P.bi)) := (blk_cell (HH.out.below hb).blk 4).trans rfl; have pl : w1.cell? ⟨P.p, 1, none⟩ = some (.int .i64 S.last) := (blk_cell (HH.out.below hb).blk 1).trans rfl; have pf := blk_frozen (HH.out.below hb).blk 1; have HA1 := Aside0.mk (HH.out.below hb); have HF1 := Aside0.mk (HF.out.below hb); have B5 := Aside0.mk hbox; have HG5 := Aside0.mk (show w.heap.size ≤ g5 by omega); have HNo := Aside0.mk (HH.out.new HG5.out); clear hb hbox hg5
      | ((with_reducible refine gate_store (t := 2) (p := 31) (v := .tmp 29) rfl ?_); refine step_store rfl rfl rfl HA1.out.blk rfl (u := .int .i64 (S.last + 1)) (seg := [.int .i64 (S.last + 1)]) rfl rfl infoL (by simp [Value.oneCell']) (by show 1 + 1 ≤ 7; omega) (cur' := cS (S.last + 1) P.q v P.bi P.bo P.bg) rfl ?_; intro w2 hbs hgs hss; have HA2 := Aside0.mk (HA1.out.celled hbs hgs); have HF2 := Aside0.mk (HF1.out.grown hgs (.inl (.inl rfl))); have B52 := Aside0.mk (blk_grown B5.out hgs (fun e => HNo.out (.inl (Option.some.inj e)))); clear hbs hgs hss hlen pi pl pf HA1 HF1 B5; have pl : w2.cell? ⟨P.p, 1, none⟩ = some (.int .i64 (S.last + 1)) := (blk_cell HA2.out.blk 1).trans rfl)
      | ((with_reducible refine gate_store (t := 2) (p := 36) (v := .tmp 35) rfl ?_); refine step_store rfl rfl rfl B52.out rfl (u := .int .i64 (S.last + 1)) (seg := [.int .i64 (S.last + 1)]) rfl rfl infoL (by simp [Value.oneCell']) (by show 0 + 1 ≤ 8; omega) (cur' := #[.int .i64 (S.last + 1), .int .i64 xk, .int .i64 xs, .int .i64 xg, .int .i64 xc, .int .u64 0, .bool false, .int .u64 xp]) rfl ?_; intro w3 hbs hgs hss; have HA3 := Aside0.mk (HA2.out.grown hgs HNo.out); have HF3 := Aside0.mk (HF2.out.grown hgs (.inr HG5.out)); have B53 := Aside0.mk hbs; clear hbs hgs hss pl HA2 HF2 B52)
      | (go_at_call 43; (refine (HT.out _).mono ?_); rintro e w4' ⟨rfl, rfl⟩)
      | ((with_reducible refine gate_store (t := 22) (p := 46) (v := .tmp 43) rfl ?_); refine step_store rfl rfl rfl B53.out rfl (u := .int .u64 (ltr now ticks)) (seg := [.int .u64 (ltr now ticks)]) rfl rfl infoU (by simp [Value.oneCell']) (by show 5 + 1 ≤ 8; omega) (cur' := #[.int .i64 (S.last + 1), .int .i64 xk, .int .i64 xs, .int .i64 xg, .int .i64 xc, .int .u64 (ltr now ticks), .bool false, .int .u64 xp]) rfl ?_; intro w4 hbs hgs hss; have HA4 := Aside0.mk (HA3.out.grown hgs HNo.out); have HF4 := Aside0.mk (HF3.out.grown hgs (.inr HG5.out)); have B54 := Aside0.mk hbs; clear hbs hgs hss HA3 HF3 B53)
      | ((with_reducible refine gate_store (t := 4) (p := 47) (v := .tmp 45) rfl ?_); refine step_store rfl rfl rfl B54.out rfl (u := .bool false) (seg := [.bool false]) rfl rfl infoB (by simp [Value.oneCell']) (by show 6 + 1 ≤ 8; omega) (cur' := #[.int .i64 (S.last + 1), .int .i64 xk, .int .i64 xs, .int .i64 xg, .int .i64 xc, .int .u64 (ltr now ticks), .bool false, .int .u64 xp]) rfl ?_; intro w5 hbs hgs hss; have HA5 := Aside0.mk (HA4.out.grown hgs HNo.out); have HF5 := Aside0.mk (HF4.out.grown hgs (.inr HG5.out)); have B55 := Aside0.mk hbs; clear hbs hgs hss HA4 HF4 B54; have x0 : w5.cell? ⟨g5, 0, none⟩ = some (.int .i64 (S.last + 1)) := (blk_cell B55.out 0).trans rfl; have x1 : w5.cell? ⟨g5, 1, none⟩ = some (.int .i64 xk) := (blk_cell B55.out 1).trans rfl; have x2 : w5.cell? ⟨g5, 2, none⟩ = some (.int .i64 xs) := (blk_cell B55.out 2).trans rfl; have x3 : w5.cell? ⟨g5, 3, none⟩ = some (.int .i64 xg) := (blk_cell B55.out 3).trans rfl; have x4 : w5.cell? ⟨g5, 4, none⟩ = some (.int .i64 xc) := (blk_cell B55.out 4).trans rfl; have x5 : w5.cell? ⟨g5, 5, none⟩ = some (.int .u64 (ltr now ticks)) := (blk_cell B55.out 5).trans rfl; have x6 : w5.cell? ⟨g5, 6, none⟩ = some (.bool false) := (blk_cell B55.out 6).trans rfl; have x7 : w5.cell? ⟨g5, 7, none⟩ = some (.int .u64 xp) := (blk_cell B55.out 7).trans rfl)
      | (go_at_call 33; (refine (arm_calls base P.p P.ok { S with last := S.last + 1 } ⟨S.last + 1, xk, ⟨xs, xg⟩, xc, ltr now ticks, false, xp⟩ _ ⟨P, v, ids, own, gs, rfl, rfl, HA5.out, HG.out⟩ HX.out hn1).mono ?_); rintro e w6 ⟨ok', rfl, hT, hn, hF⟩; have HT6 := Aside0.mk hT; have HF6 := Aside0.mk (HF5.out.then_ hF (Nat.le_refl _) (fun k q => .inl q)); have HN6 := Aside0.mk (show ∀ k, ok' k → P.ok k ∨ w.heap.size ≤ k from fun k q => (hn k q).imp id (Nat.le_trans HF5.out.size)); have x0' : w6.cell? ⟨g5, 0, none⟩ = some (.int .i64 (S.last + 1)) := (blk_cell (hF.blk B55.out HNo.out) 0).trans rfl; clear hT hn hF x0 x1 x2 x3 x4 x5 x6 x7 HA5 HF5 B55))
    go_ret2
    exact ⟨ok', rfl, HT6.out, HN6.out, HF6.out⟩
  | true =>
    simp only [hnv, if_true, if_false, Bool.false_eq_true] at HT HX
    go_enter Try.func27, Try.ntmps27
    go_wp2_with (first
      | (with_reducible refine gate_dst (N := 5) rfl ?_); refine box_event ?hg (N := 5) ?hd (cs := #[.int .i64 0, .int .i64 xk, .int .i64 xs, .int .i64 xg, .int .i64 xc, .int .u64 0, .bool false, .int .u64 xp]) (t := 40) ?hr ?_; (case hd => rfl); (case hg => rfl); (case hr => first | (go_simp; done) | (go_simp; rfl)); intro g5 hg5 w1 hbox hb; have HB1 := Aside0.mk hb; have hlen : (Builtin.len_ #[54] 3 #[.map (some P.bi)]).run Try.prog w1 = .ok (.int .i64 (S.all.length : Int)) w1 := by { have h := run_lenM Try.underlying54 (HH.out.below hb).mi.of 3; rw [h, hl] }; have pi : w1.cell? ⟨P.p, 4, none⟩ = some (.map (some P.bi)) := (blk_cell (HH.out.below hb).blk 4).trans rfl; have pl : w1.cell? ⟨P.p, 1, none⟩ = some (.int .i64 S.last) := (blk_cell (HH.out.below hb).blk 1).trans rfl; have pf := blk_frozen (HH.out.below hb).blk 1; have HA1 := Aside0.mk (HH.out.below hb); have HF1 := Aside0.mk (HF.out.below hb); have B5 := Aside0.mk hbox; have HG5 := Aside0.mk (show w.heap.size ≤ g5 by omega); have HNo := Aside0.mk (HH.out.new HG5.out); clear hb hbox hg5
      | ((with_reducible refine gate_store (t := 2) (p := 31) (v := .tmp 29) rfl ?_); refine step_store rfl rfl rfl HA1.out.blk rfl (u := .int .i64 (S.last + 1)) (seg := [.int .i64 (S.last + 1)]) rfl rfl infoL (by simp [Value.oneCell']) (by show 1 + 1 ≤ 7; omega) (cur' := cS (S.last + 1) P.q v P.bi P.bo P.bg) rfl ?_; intro w2 hbs hgs hss; have HA2 := Aside0.mk (HA1.out.celled hbs hgs); have HF2 := Aside0.mk (HF1.out.grown hgs (.inl (.inl rfl))); have B52 := Aside0.mk (blk_grown B5.out hgs (fun e => HNo.out (.inl (Option.some.inj e)))); clear hbs hgs hss hlen pi pl pf HA1 HF1 B5; have pl : w2.cell? ⟨P.p, 1, none⟩ = some (.int .i64 (S.last + 1)) := (blk_cell HA2.out.blk 1).trans rfl)
      | ((with_reducible refine gate_store (t := 2) (p := 36) (v := .tmp 35) rfl ?_); refine step_store rfl rfl rfl B52.out rfl (u := .int .i64 (S.last + 1)) (seg := [.int .i64 (S.last + 1)]) rfl rfl infoL (by simp [Value.oneCell']) (by show 0 + 1 ≤ 8; omega) (cur' := #[.int .i64 (S.last + 1), .int .i64 xk, .int .i64 xs, .int .i64 xg, .int .i64 xc, .int .u64 0, .bool false, .int .u64 xp]) rfl ?_; intro w3 hbs hgs hss; have HA3 := Aside0.mk (HA2.out.grown hgs HNo.out); have HF3 := Aside0.mk (HF2.out.grown hgs (.inr HG5.out)); have B53 := Aside0.mk hbs; clear hbs hgs hss pl HA2 HF2 B52)
      | (go_at_call 43; (refine (HT.out _).mono ?_); rintro e w4' ⟨rfl, rfl⟩)
      | ((with_reducible refine gate_store (t := 22) (p := 46) (v := .tmp 43) rfl ?_); refine step_store rfl rfl rfl B53.out rfl (u := .int .u64 (ltr now ticks)) (seg := [.int .u64 (ltr now ticks)]) rfl rfl infoU (by simp [Value.oneCell']) (by show 5 + 1 ≤ 8; omega) (cur' := #[.int .i64 (S.last + 1), .int .i64 xk, .int .i64 xs, .int .i64 xg, .int .i64 xc, .int .u64 (ltr now ticks), .bool false, .int .u64 xp]) rfl ?_; intro w4 hbs hgs hss; have HA4 := Aside0.mk (HA3.out.grown hgs HNo.out); have HF4 := Aside0.mk (HF3.out.grown hgs (.inr HG5.out)); have B54 := Aside0.mk hbs; clear hbs hgs hss HA3 HF3 B53)
      | ((with_reducible refine gate_store (t := 4) (p := 47) (v := .tmp 45) rfl ?_); refine step_store rfl rfl rfl B54.out rfl (u := .bool true) (seg := [.bool true]) rfl rfl infoB (by simp [Value.oneCell']) (by show 6 + 1 ≤ 8; omega) (cur' := #[.int .i64 (S.last + 1), .int .i64 xk, .int .i64 xs, .int .i64 xg, .int .i64 xc, .int .u64 (ltr now ticks), .bool true, .int .u64 xp]) rfl ?_; intro w5 hbs hgs hss; have HA5 := Aside0.mk (HA4.out.grown hgs HNo.out); have HF5 := Aside0.mk (HF4.out.grown hgs (.inr HG5.out)); have B55 := Aside0.mk hbs; clear hbs hgs hss HA4 HF4 B54; have x0 : w5.cell? ⟨g5, 0, none⟩ = some (.int .i64 (S.last + 1)) := (blk_cell B55.out 0).trans rfl; have x1 : w5.cell? ⟨g5, 1, none⟩ = some (.int .i64 xk) := (blk_cell B55.out 1).trans rfl; have x2 : w5.cell? ⟨g5, 2, none⟩ = some (.int .i64 xs) := (blk_cell B55.out 2).trans rfl; have x3 : w5.cell? ⟨g5, 3, none⟩ = some (.int .i64 xg) := (blk_cell B55.out 3).trans rfl; have x4 : w5.cell? ⟨g5, 4, none⟩ = some (.int .i64 xc) := (blk_cell B55.out 4).trans rfl; have x5 : w5.cell? ⟨g5, 5, none⟩ = some (.int .u64 (ltr now ticks)) := (blk_cell B55.out 5).trans rfl; have x6 : w5.cell? ⟨g5, 6, none⟩ = some (.bool true) := (blk_cell B55.out 6).trans rfl; have x7 : w5.cell? ⟨g5, 7, none⟩ = some (.int .u64 xp) := (blk_cell B55.out 7).trans rfl)
      | (go_at_call 33; (refine (arm_calls base P.p P.ok { S with last := S.last + 1 } ⟨S.last + 1, xk, ⟨xs, xg⟩, xc, ltr now ticks, true, xp⟩ _ ⟨P, v, ids, own, gs, rfl, rfl, HA5.out, HG.out⟩ HX.out hn1).mono ?_); rintro e w6 ⟨ok', rfl, hT, hn, hF⟩; have HT6 := Aside0.mk hT; have HF6 := Aside0.mk (HF5.out.then_ hF (Nat.le_refl _) (fun k q => .inl q)); have HN6 := Aside0.mk (show ∀ k, ok' k → P.ok k ∨ w.heap.size ≤ k from fun k q => (hn k q).imp id (Nat.le_trans HF5.out.size)); have x0' : w6.cell? ⟨g5, 0, none⟩ = some (.int .i64 (S.last + 1)) := (blk_cell (hF.blk B55.out HNo.out) 0).trans rfl; clear hT hn hF x0 x1 x2 x3 x4 x5 x6 x7 HA5 HF5 B55))
    go_ret2
    exact ⟨ok', rfl, HT6.out, HN6.out, HF6.out⟩
end Go.Proofs.Ytceopcfmhidjlaa.PTimerPlays

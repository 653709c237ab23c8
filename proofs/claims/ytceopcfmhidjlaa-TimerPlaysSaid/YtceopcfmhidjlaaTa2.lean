/- arm, at a timer that will be due. Conditions: the theorem's own.
   arm, at a timer that is never due. Conditions: the theorem's own.
   What timers hold: the timers that run, and what the three maps must tell of them. Plain. Conditions: each theorem's own.
   tick.Add, over the model's own bits.Add64. Conditions: the theorem's own.
   Timers told by what they hold (TP): is, arm, New. Conditions: each theorem's own.
   begin. Conditions: each theorem's own.
   After, Every, Sleeps, Sleep, Next. Conditions: each theorem's own.
   Sleep and Next. Conditions: each theorem's own. -/
import Derived.Test.YtceopcfmhidjlaaTst
import Derived.Deep.RegionHeld3
import Derived.Deep.RegionLaw
import Derived.Laws.Externs
import Derived.Carry
set_option linter.unusedVariables false
set_option linter.unusedSimpArgs false
namespace Go.Proofs.Ytceopcfmhidjlaa.PTimerPlays
open Go.RowKit Go.Proofs.Ytceopcfmhidjlaa.Ef Go.Proofs.Ytceopcfmhidjlaa.Mp Go.Proofs.Ytceopcfmhidjlaa.Hp Go.Proofs.YtceopcfmhidjlaaW.PrintWords Go.Proofs.YtceopcfmhidjlaaW.PrintLast Go.Proofs.YtceopcfmhidjlaaW.PrintMore
def gsN (k s g i : Int) (gs : List ((Int × Int) × Value)) : List ((Int × Int) × Value) := if k = 1 then ins (s, g) (.int .i64 i) gs else gs
set_option maxHeartbeats 4000000 in
set_option maxRecDepth 100000 in
theorem arm_due (base : Nat) (P : Pl) (v : Value) (last : Int) (hp : List NI) (next : Int) (nv : List Tm) (ids own : List (Int × Value)) (gs : List ((Int × Int) × Value)) (xi xk xs xg xc xt xp : Int) (w : World)
    (H : TA w base P v last hp next nv ids own gs) (hn : ∀ x ∈ hp, x.num ≠ next) (hsm : (hp.length + 1) * 80 ≤ 140737488355328) (hn0 : 0 ≤ next) (hn1 : next ≤ 1000000000000000000) :
    Calls Try.prog 33 #[.pointer (some ⟨P.p, 0, none⟩), .agg #[.int .i64 xi, .int .i64 xk, .int .i64 xs, .int .i64 xg, .int .i64 xc, .int .u64 xt, .bool false, .int .u64 xp]] w fun e w' => ∃ H' : Nat → Prop, e = .returned (.tuple #[]) ∧
      TA w' base { P with H := H' } v last (hp ++ [⟨xt, next, ⟨xi, xk, ⟨xs, xg⟩, xc, xt, false, xp⟩⟩]) (next + 1) nv (ins xi (plc next false) ids) (ins xi (.agg #[.int .i64 xi, .int .i64 xk, .int .i64 xs, .int .i64 xg, .int .i64 xc, .int .u64 xt, .bool false, .int .u64 xp]) own) (gsN xk xs xg xi gs) ∧ (∀ k, H' k → P.H k ∨ w.heap.size ≤ k) ∧ Fr base P.ok w w' := by
  have HH := Aside0.mk H
  have HF := Aside0.mk (Fr.refl H.le H.fine.low)
  have HN := Aside0.mk hn
  clear H hn
  go_enter Try.func33, Try.ntmps33
  go_wp2_with (first
    | ((with_reducible refine gate_dst (N := 3) rfl ?_); refine box_event ?hg (N := 3) ?hd (cs := #[.int .i64 xi, .int .i64 xk, .int .i64 xs, .int .i64 xg, .int .i64 xc, .int .u64 xt, .bool false, .int .u64 xp]) (t := 40) ?hr ?_; (case hd => rfl); (case hg => rfl); (case hr => first | (go_simp; done) | (go_simp; rfl)); intro g3 hg3 w1 hbox hb; have HA1 := Aside0.mk (HH.out.below hb); have HF1 := Aside0.mk (HF.out.below hb); have B3 := Aside0.mk hbox; have HG3 := Aside0.mk (show w.heap.size ≤ g3 by omega); have x6 : w1.cell? ⟨g3, 6, none⟩ = some (.bool false) := (blk_cell hbox 6).trans rfl; clear hb hbox hg3)
    | ((with_reducible refine gate_dst (N := 4) rfl ?_); refine box_event ?hg (N := 4) ?hd (cs := #[.int .i64 0, .bool false]) (t := 73) ?hr ?_; (case hd => rfl); (case hg => rfl); (case hr => first | (go_simp; done) | (go_simp; rfl)); intro g4 hg4 w2 hbox hb; have HA2 := Aside0.mk (HA1.out.below hb); have HF2 := Aside0.mk (HF1.out.below hb); have B32 := Aside0.mk (blk_below B3.out hb); have B4 := Aside0.mk hbox; have HG4 := Aside0.mk (show w.heap.size ≤ g4 from by have := HF1.out.size; omega); have HE := Aside0.mk (show g3 ≠ g4 from by have := blk_lt B3.out; omega); clear hb hbox hg4 x6 HA1 HF1 B3)
    | ((with_reducible refine gate_store (t := 73) (p := 4) (v := .tmp 7) rfl ?_); refine step_store rfl rfl rfl B4.out rfl (u := .agg #[.int .i64 0, .bool false]) (seg := [.int .i64 0, .bool false]) rfl rfl (by kernel_rfl) (by simp [Value.oneCell']) (Nat.le_refl 2) (cur' := #[.int .i64 0, .bool false]) rfl ?_; intro w3 hb3 hg3 hs3; have HA3 := Aside0.mk (HA2.out.grown hg3 (HH.out.new HG4.out)); have HF3 := Aside0.mk (HF2.out.grown hg3 (.inr HG4.out)); have B33 := Aside0.mk (blk_grown B32.out hg3 (fun e => HE.out (Option.some.inj e))); have B43 := Aside0.mk hb3; clear hb3 hg3 hs3 HA2 HF2 B32 B4; have x6 : w3.cell? ⟨g3, 6, none⟩ = some (.bool false) := (blk_cell B33.out 6).trans rfl))
  have x0 : w3.cell? ⟨g3, 0, none⟩ = some (.int .i64 xi) := (blk_cell B33.out 0).trans rfl
  have x1 : w3.cell? ⟨g3, 1, none⟩ = some (.int .i64 xk) := (blk_cell B33.out 1).trans rfl
  have x2 : w3.cell? ⟨g3, 2, none⟩ = some (.int .i64 xs) := (blk_cell B33.out 2).trans rfl
  have x3 : w3.cell? ⟨g3, 3, none⟩ = some (.int .i64 xg) := (blk_cell B33.out 3).trans rfl
  have x4 : w3.cell? ⟨g3, 4, none⟩ = some (.int .i64 xc) := (blk_cell B33.out 4).trans rfl
  have x5 : w3.cell? ⟨g3, 5, none⟩ = some (.int .u64 xt) := (blk_cell B33.out 5).trans rfl
  have x7 : w3.cell? ⟨g3, 7, none⟩ = some (.int .u64 xp) := (blk_cell B33.out 7).trans rfl
  have pq : w3.cell? ⟨P.p, 2, none⟩ = some (.pointer (some ⟨P.q, 0, none⟩)) := (blk_cell HA3.out.blk 2).trans rfl
  go_still_tail 7, (by kernel_rfl)
  change wpList _ _ _ _ _ w3.drew
  have HA4 := Aside0.mk HA3.out.drew
  have HF4 := Aside0.mk HF3.out.drew
  have B34 : Aside0 (w3.drew.heap[g3]? = some (.cells #[.int .i64 xi, .int .i64 xk, .int .i64 xs, .int .i64 xg, .int .i64 xc, .int .u64 xt, .bool false, .int .u64 xp] 40 (0, 0))) := ⟨B33.out⟩
  have B44 : Aside0 (w3.drew.heap[g4]? = some (.cells #[.int .i64 0, .bool false] 73 (0, 0))) := ⟨B43.out⟩
  clear x0 x1 x2 x3 x4 x5 x6 x7 pq HA3 HF3 B33 B43
  generalize w3.drew = w4 at *
  have info3 : (Try.prog.info? 3).map (·.size) = some 1 := by kernel_rfl
  go_wp2_with (first
    | (go_at_call 50; (refine (HP.push base P.q P.H hp next xt ⟨xi, xk, ⟨xs, xg⟩, xc, xt, false, xp⟩ _ HA4.out.heap HN.out hsm hn0 hn1).mono ?_); rintro e w5 ⟨H', rfl, hh, hn, hF⟩; have HA5 := Aside0.mk (HA4.out.heaped hh hF.k (fun k q => (hn k q).imp id (fun r => r))); have HF5 := Aside0.mk (HF4.out.then_ hF (Nat.le_refl _) (fun k q => .inl (.inr (.inr (.inr (.inr (.inl q))))))); have HN5 := Aside0.mk (show ∀ k, H' k → P.H k ∨ w.heap.size ≤ k from fun k q => (hn k q).imp id (Nat.le_trans HF4.out.size)); have B35 := Aside0.mk (hF.blk B34.out (fun q => HH.out.new HG3.out (.inr (.inr (.inr (.inr (.inl q))))))); have B45 := Aside0.mk (hF.blk B44.out (fun q => HH.out.new HG4.out (.inr (.inr (.inr (.inr (.inl q))))))); have HZ4 := Aside0.mk (Pl.nokH (H' := H') (HH.out.new HG4.out) (fun q => (hn g4 q).elim (fun r => HH.out.new HG4.out (.inr (.inr (.inr (.inr (.inl r)))))) (fun r => by have := blk_lt B44.out; omega))); have HZ3 := Aside0.mk (Pl.nokH (H' := H') (HH.out.new HG3.out) (fun q => (hn g3 q).elim (fun r => HH.out.new HG3.out (.inr (.inr (.inr (.inr (.inl r)))))) (fun r => by have := blk_lt B34.out; omega))); clear hh hn hF HA4 HF4 B34 B44)
    | ((with_reducible refine gate_store (t := 3) (p := 28) (v := .tmp 27) rfl ?_); refine step_store rfl rfl rfl B45.out rfl (u := .int .i64 next) (seg := [.int .i64 next]) rfl rfl info3 (by simp [Value.oneCell']) (by show 0 + 1 ≤ 2; omega) (cur' := #[.int .i64 next, .bool false]) rfl ?_; intro w6 hb6 hg6 hs6; have HA6 := Aside0.mk (HA5.out.grown hg6 HZ4.out); have HF6 := Aside0.mk (HF5.out.grown hg6 (.inr HG4.out)); have B36 := Aside0.mk (blk_grown B35.out hg6 (fun e => HE.out (Option.some.inj e))); have B46 := Aside0.mk hb6; clear hb6 hg6 hs6 HA5 HF5 B35 B45))
  have x0 : w6.cell? ⟨g3, 0, none⟩ = some (.int .i64 xi) := (blk_cell B36.out 0).trans rfl
  have x1 : w6.cell? ⟨g3, 1, none⟩ = some (.int .i64 xk) := (blk_cell B36.out 1).trans rfl
  have x2 : w6.cell? ⟨g3, 2, none⟩ = some (.int .i64 xs) := (blk_cell B36.out 2).trans rfl
  have x3 : w6.cell? ⟨g3, 3, none⟩ = some (.int .i64 xg) := (blk_cell B36.out 3).trans rfl
  have x4 : w6.cell? ⟨g3, 4, none⟩ = some (.int .i64 xc) := (blk_cell B36.out 4).trans rfl
  have x5 : w6.cell? ⟨g3, 5, none⟩ = some (.int .u64 xt) := (blk_cell B36.out 5).trans rfl
  have x6 : w6.cell? ⟨g3, 6, none⟩ = some (.bool false) := (blk_cell B36.out 6).trans rfl
  have x7 : w6.cell? ⟨g3, 7, none⟩ = some (.int .u64 xp) := (blk_cell B36.out 7).trans rfl
  have y0 : w6.cell? ⟨g4, 0, none⟩ = some (.int .i64 next) := (blk_cell B46.out 0).trans rfl
  have y1 : w6.cell? ⟨g4, 1, none⟩ = some (.bool false) := (blk_cell B46.out 1).trans rfl
  have pi : w6.cell? ⟨P.p, 4, none⟩ = some (.map (some P.bi)) := (blk_cell HA6.out.blk 4).trans rfl
  have po : w6.cell? ⟨P.p, 5, none⟩ = some (.map (some P.bo)) := (blk_cell HA6.out.blk 5).trans rfl
  have HA7 := Aside0.mk HA6.out.drew
  have HF7 := Aside0.mk HF6.out.drew
  have B37 : w6.drew.heap[g3]? = some (.cells #[.int .i64 xi, .int .i64 xk, .int .i64 xs, .int .i64 xg, .int .i64 xc, .int .u64 xt, .bool false, .int .u64 xp] 40 (0, 0)) := B36.out
  have B47 : w6.drew.heap[g4]? = some (.cells #[.int .i64 next, .bool false] 73 (0, 0)) := B46.out
  have n4i : some g4 ≠ some P.bi := fun e => HZ4.out (.inr (.inl (Option.some.inj e)))
  have n3i : some g3 ≠ some P.bi := fun e => HZ3.out (.inr (.inl (Option.some.inj e)))
  have n4o : some g4 ≠ some P.bo := fun e => HZ4.out (.inr (.inr (.inl (Option.some.inj e))))
  have n3o : some g3 ≠ some P.bo := fun e => HZ3.out (.inr (.inr (.inl (Option.some.inj e))))
  have npi : some P.p ≠ some P.bi := fun e => HA7.out.fine.pi (Option.some.inj e)
  have npo : some P.p ≠ some P.bo := fun e => HA7.out.fine.po (Option.some.inj e)
  obtain ⟨v0, st, w8, h8, hE8, hg8, -⟩ := run_entry keyL Try.underlying54 (zeroP _) HA7.out.mi xi
  obtain ⟨w9, h9, hm9, hg9, -⟩ := run_estore (P := Try.prog) (T := 54) hE8 (plc next false)
  have HA9 := HA7.out.ided hm9 (grown_trans hg8 hg9)
  have B39 := blk_grown B37 (grown_trans hg8 hg9) n3i
  have B49 := blk_grown B47 (grown_trans hg8 hg9) n4i
  obtain ⟨v1, st1, w10, h10, hE10, hg10, -⟩ := run_entry keyL Try.underlying55 (zeroT _) HA9.mo xi
  obtain ⟨w11, h11, hm11, hg11, -⟩ := run_estore (P := Try.prog) (T := 55) hE10 (.agg #[.int .i64 xi, .int .i64 xk, .int .i64 xs, .int .i64 xg, .int .i64 xc, .int .u64 xt, .bool false, .int .u64 xp])
  have HA11 := Aside0.mk (HA9.owned hm11 (grown_trans hg10 hg11))
  have HF11 := Aside0.mk ((HF7.out.grown (grown_trans hg8 hg9) (.inl (.inr (.inl rfl)))).grown (grown_trans hg10 hg11) (.inl (.inr (.inr (.inl rfl)))))
  have B311 := Aside0.mk (blk_grown B39 (grown_trans hg10 hg11) n3o)
  have K8 : Aside0 (w8.cell? ⟨P.p, 4, none⟩ = some (.map (some P.bi)) ∧ w8.cell? ⟨P.p, 5, none⟩ = some (.map (some P.bo)) ∧ w8.cell? ⟨g3, 0, none⟩ = some (.int .i64 xi) ∧ w8.cell? ⟨g3, 1, none⟩ = some (.int .i64 xk) ∧ w8.cell? ⟨g3, 2, none⟩ = some (.int .i64 xs) ∧ w8.cell? ⟨g3, 3, none⟩ = some (.int .i64 xg) ∧ w8.cell? ⟨g3, 4, none⟩ = some (.int .i64 xc) ∧ w8.cell? ⟨g3, 5, none⟩ = some (.int .u64 xt) ∧ w8.cell? ⟨g3, 6, none⟩ = some (.bool false) ∧ w8.cell? ⟨g3, 7, none⟩ = some (.int .u64 xp) ∧ w8.cell? ⟨g4, 0, none⟩ = some (.int .i64 next) ∧ w8.cell? ⟨g4, 1, none⟩ = some (.bool false)) := ⟨⟨(blk_cell (blk_grown HA7.out.blk hg8 npi) 4).trans rfl, (blk_cell (blk_grown HA7.out.blk hg8 npi) 5).trans rfl, (blk_cell (blk_grown B37 hg8 n3i) 0).trans rfl, (blk_cell (blk_grown B37 hg8 n3i) 1).trans rfl, (blk_cell (blk_grown B37 hg8 n3i) 2).trans rfl, (blk_cell (blk_grown B37 hg8 n3i) 3).trans rfl, (blk_cell (blk_grown B37 hg8 n3i) 4).trans rfl, (blk_cell (blk_grown B37 hg8 n3i) 5).trans rfl, (blk_cell (blk_grown B37 hg8 n3i) 6).trans rfl, (blk_cell (blk_grown B37 hg8 n3i) 7).trans rfl, (blk_cell (blk_grown B47 hg8 n4i) 0).trans rfl, (blk_cell (blk_grown B47 hg8 n4i) 1).trans rfl⟩⟩
  have K9 : Aside0 (w9.cell? ⟨P.p, 4, none⟩ = some (.map (some P.bi)) ∧ w9.cell? ⟨P.p, 5, none⟩ = some (.map (some P.bo)) ∧ w9.cell? ⟨g3, 0, none⟩ = some (.int .i64 xi) ∧ w9.cell? ⟨g3, 1, none⟩ = some (.int .i64 xk) ∧ w9.cell? ⟨g3, 2, none⟩ = some (.int .i64 xs) ∧ w9.cell? ⟨g3, 3, none⟩ = some (.int .i64 xg) ∧ w9.cell? ⟨g3, 4, none⟩ = some (.int .i64 xc) ∧ w9.cell? ⟨g3, 5, none⟩ = some (.int .u64 xt) ∧ w9.cell? ⟨g3, 6, none⟩ = some (.bool false) ∧ w9.cell? ⟨g3, 7, none⟩ = some (.int .u64 xp) ∧ w9.cell? ⟨g4, 0, none⟩ = some (.int .i64 next) ∧ w9.cell? ⟨g4, 1, none⟩ = some (.bool false)) := ⟨⟨(blk_cell HA9.blk 4).trans rfl, (blk_cell HA9.blk 5).trans rfl, (blk_cell B39 0).trans rfl, (blk_cell B39 1).trans rfl, (blk_cell B39 2).trans rfl, (blk_cell B39 3).trans rfl, (blk_cell B39 4).trans rfl, (blk_cell B39 5).trans rfl, (blk_cell B39 6).trans rfl, (blk_cell B39 7).trans rfl, (blk_cell B49 0).trans rfl, (blk_cell B49 1).trans rfl⟩⟩
  have K10 : Aside0 (w10.cell? ⟨P.p, 4, none⟩ = some (.map (some P.bi)) ∧ w10.cell? ⟨P.p, 5, none⟩ = some (.map (some P.bo)) ∧ w10.cell? ⟨g3, 0, none⟩ = some (.int .i64 xi) ∧ w10.cell? ⟨g3, 1, none⟩ = some (.int .i64 xk) ∧ w10.cell? ⟨g3, 2, none⟩ = some (.int .i64 xs) ∧ w10.cell? ⟨g3, 3, none⟩ = some (.int .i64 xg) ∧ w10.cell? ⟨g3, 4, none⟩ = some (.int .i64 xc) ∧ w10.cell? ⟨g3, 5, none⟩ = some (.int .u64 xt) ∧ w10.cell? ⟨g3, 6, none⟩ = some (.bool false) ∧ w10.cell? ⟨g3, 7, none⟩ = some (.int .u64 xp) ∧ w10.cell? ⟨g4, 0, none⟩ = some (.int .i64 next) ∧ w10.cell? ⟨g4, 1, none⟩ = some (.bool false)) := ⟨⟨(blk_cell (blk_grown HA9.blk hg10 npo) 4).trans rfl, (blk_cell (blk_grown HA9.blk hg10 npo) 5).trans rfl, (blk_cell (blk_grown B39 hg10 n3o) 0).trans rfl, (blk_cell (blk_grown B39 hg10 n3o) 1).trans rfl, (blk_cell (blk_grown B39 hg10 n3o) 2).trans rfl, (blk_cell (blk_grown B39 hg10 n3o) 3).trans rfl, (blk_cell (blk_grown B39 hg10 n3o) 4).trans rfl, (blk_cell (blk_grown B39 hg10 n3o) 5).trans rfl, (blk_cell (blk_grown B39 hg10 n3o) 6).trans rfl, (blk_cell (blk_grown B39 hg10 n3o) 7).trans rfl, (blk_cell (blk_grown B49 hg10 n4o) 0).trans rfl, (blk_cell (blk_grown B49 hg10 n4o) 1).trans rfl⟩⟩
  have K11 : Aside0 (w11.cell? ⟨P.p, 4, none⟩ = some (.map (some P.bi)) ∧ w11.cell? ⟨P.p, 5, none⟩ = some (.map (some P.bo)) ∧ w11.cell? ⟨g3, 0, none⟩ = some (.int .i64 xi) ∧ w11.cell? ⟨g3, 1, none⟩ = some (.int .i64 xk) ∧ w11.cell? ⟨g3, 2, none⟩ = some (.int .i64 xs) ∧ w11.cell? ⟨g3, 3, none⟩ = some (.int .i64 xg) ∧ w11.cell? ⟨g3, 4, none⟩ = some (.int .i64 xc) ∧ w11.cell? ⟨g3, 5, none⟩ = some (.int .u64 xt) ∧ w11.cell? ⟨g3, 6, none⟩ = some (.bool false) ∧ w11.cell? ⟨g3, 7, none⟩ = some (.int .u64 xp) ∧ w11.cell? ⟨g4, 0, none⟩ = some (.int .i64 next) ∧ w11.cell? ⟨g4, 1, none⟩ = some (.bool false)) := ⟨⟨(blk_cell HA11.out.blk 4).trans rfl, (blk_cell HA11.out.blk 5).trans rfl, (blk_cell B311.out 0).trans rfl, (blk_cell B311.out 1).trans rfl, (blk_cell B311.out 2).trans rfl, (blk_cell B311.out 3).trans rfl, (blk_cell B311.out 4).trans rfl, (blk_cell B311.out 5).trans rfl, (blk_cell B311.out 6).trans rfl, (blk_cell B311.out 7).trans rfl, (blk_cell (blk_grown B49 (grown_trans hg10 hg11) n4o) 0).trans rfl, (blk_cell (blk_grown B49 (grown_trans hg10 hg11) n4o) 1).trans rfl⟩⟩
  clear hE8 hg8 hm9 hg9 hE10 hg10 hm11 hg11 HA9 B37 B47 B39 B49 n3i n4i n3o n4o npi npo
  go_region_held3 (fun w' => w'.cell? ⟨P.p, 4, none⟩ = some (.map (some P.bi)) ∧ w'.cell? ⟨P.p, 5, none⟩ = some (.map (some P.bo)) ∧ w'.cell? ⟨g3, 0, none⟩ = some (.int .i64 xi) ∧ w'.cell? ⟨g3, 1, none⟩ = some (.int .i64 xk) ∧ w'.cell? ⟨g3, 2, none⟩ = some (.int .i64 xs) ∧ w'.cell? ⟨g3, 3, none⟩ = some (.int .i64 xg) ∧ w'.cell? ⟨g3, 4, none⟩ = some (.int .i64 xc) ∧ w'.cell? ⟨g3, 5, none⟩ = some (.int .u64 xt) ∧ w'.cell? ⟨g3, 6, none⟩ = some (.bool false) ∧ w'.cell? ⟨g3, 7, none⟩ = some (.int .u64 xp) ∧ w'.cell? ⟨g4, 0, none⟩ = some (.int .i64 next) ∧ w'.cell? ⟨g4, 1, none⟩ = some (.bool false)) (first | exact K8.out | exact K9.out | exact K10.out | exact K11.out | go_keep) (fail)
  clear K8 K9 K10 K11 h8 h9 h10 h11 x0 x1 x2 x3 x4 x5 x6 x7 y0 y1 pi po HA6 HF6 B36 B46 HA7 HF7
  rename_i hHeld
  clear hHeld
  have x1 : w11.cell? ⟨g3, 1, none⟩ = some (.int .i64 xk) := (blk_cell B311.out 1).trans rfl
  by_cases hk : xk = 1
  · subst hk
    go_wp2
    have x0 : w11.cell? ⟨g3, 0, none⟩ = some (.int .i64 xi) := (blk_cell B311.out 0).trans rfl
    have x2 : w11.cell? ⟨g3, 2, none⟩ = some (.int .i64 xs) := (blk_cell B311.out 2).trans rfl
    have x3 : w11.cell? ⟨g3, 3, none⟩ = some (.int .i64 xg) := (blk_cell B311.out 3).trans rfl
    have pg : w11.cell? ⟨P.p, 6, none⟩ = some (.map (some P.bg)) := (blk_cell HA11.out.blk 6).trans rfl
    go_still_tail 8, (by kernel_rfl)
    change wpList _ _ _ _ _ w11.drew
    have HA12 := Aside0.mk HA11.out.drew
    have HF12 := Aside0.mk HF11.out.drew
    clear x0 x1 x2 x3 pg HA11 HF11 B311
    generalize w11.drew = w12 at *
    go_wp2_with ((with_reducible refine gate_put (T := 56) (x := .tmp 53) (y := .tmp 55) (u := .tmp 57) rfl ?_); refine step_put keyG Try.underlying56 rfl rfl HA12.out.mg (xs, xg) (.int .i64 xi) rfl rfl rfl ?_; intro w13 hm hg hs; have HA13 := Aside0.mk (HA12.out.gsed hm hg); have HF13 := Aside0.mk (HF12.out.grown hg (.inl (.inr (.inr (.inr (.inl rfl)))))); clear hm hg hs HA12 HF12)
    go_end0
    first | refine ⟨H', rfl, ?_, HN5.out, HF13.out⟩ | refine ⟨rfl, H', ?_, HN5.out, HF13.out⟩
    rw [show gsN 1 xs xg xi gs = ins (xs, xg) (.int .i64 xi) gs from if_pos rfl]
    exact HA13.out
  · have hk' : (xk == 1) = false := by simp [hk]
    go_wp2
    go_end0
    first | refine ⟨H', rfl, ?_, HN5.out, HF11.out⟩ | refine ⟨rfl, H', ?_, HN5.out, HF11.out⟩
    rw [show gsN xk xs xg xi gs = gs from if_neg hk]
    exact HA11.out
end Go.Proofs.Ytceopcfmhidjlaa.PTimerPlays
set_option linter.unusedVariables false
set_option linter.unusedSimpArgs false
namespace Go.Proofs.Ytceopcfmhidjlaa.PTimerPlays
open Go.RowKit Go.Proofs.Ytceopcfmhidjlaa.Ef Go.Proofs.Ytceopcfmhidjlaa.Mp Go.Proofs.Ytceopcfmhidjlaa.Hp Go.Proofs.YtceopcfmhidjlaaW.PrintWords Go.Proofs.YtceopcfmhidjlaaW.PrintLast Go.Proofs.YtceopcfmhidjlaaW.PrintMore
set_option maxHeartbeats 4000000 in
set_option maxRecDepth 100000 in
theorem arm_never (base : Nat) (P : Pl) (v : Value) (last : Int) (hp : List NI) (next : Int) (nv : List Tm) (ids own : List (Int × Value)) (gs : List ((Int × Int) × Value)) (xi xk xs xg xc xt xp : Int) (w : World)
    (H : TA w base P v last hp next nv ids own gs) (hsm : (nv.length + 1) * 64 ≤ 140737488355328) :
    Calls Try.prog 33 #[.pointer (some ⟨P.p, 0, none⟩), .agg #[.int .i64 xi, .int .i64 xk, .int .i64 xs, .int .i64 xg, .int .i64 xc, .int .u64 xt, .bool true, .int .u64 xp]] w fun e w' => ∃ (N' : Nat → Prop) (v' : Value), e = .returned (.tuple #[]) ∧
      TA w' base { P with N := N' } v' last hp next (nv ++ [⟨xi, xk, ⟨xs, xg⟩, xc, xt, true, xp⟩]) (ins xi (plc 0 true) ids) (ins xi (.agg #[.int .i64 xi, .int .i64 xk, .int .i64 xs, .int .i64 xg, .int .i64 xc, .int .u64 xt, .bool true, .int .u64 xp]) own) (gsN xk xs xg xi gs) ∧ (∀ k, N' k → P.N k ∨ w.heap.size ≤ k) ∧ Fr base P.ok w w' := by
  obtain ⟨A, c, rfl⟩ := Kd.R_slice H.row
  have HH := Aside0.mk H
  have HF := Aside0.mk (Fr.refl H.le H.fine.low)
  clear H
  go_enter Try.func33, Try.ntmps33
  go_wp2_with (first
    | ((with_reducible refine gate_dst (N := 3) rfl ?_); refine box_event ?hg (N := 3) ?hd (cs := #[.int .i64 xi, .int .i64 xk, .int .i64 xs, .int .i64 xg, .int .i64 xc, .int .u64 xt, .bool true, .int .u64 xp]) (t := 40) ?hr ?_; (case hd => rfl); (case hg => rfl); (case hr => first | (go_simp; done) | (go_simp; rfl)); intro g3 hg3 w1 hbox hb; have HA1 := Aside0.mk (HH.out.below hb); have HF1 := Aside0.mk (HF.out.below hb); have B3 := Aside0.mk hbox; have HG3 := Aside0.mk (show w.heap.size ≤ g3 by omega); have x6 : w1.cell? ⟨g3, 6, none⟩ = some (.bool true) := (blk_cell hbox 6).trans rfl; clear hb hbox hg3)
    | ((with_reducible refine gate_dst (N := 4) rfl ?_); refine box_event ?hg (N := 4) ?hd (cs := #[.int .i64 0, .bool false]) (t := 73) ?hr ?_; (case hd => rfl); (case hg => rfl); (case hr => first | (go_simp; done) | (go_simp; rfl)); intro g4 hg4 w2 hbox hb; have HA2 := Aside0.mk (HA1.out.below hb); have HF2 := Aside0.mk (HF1.out.below hb); have B32 := Aside0.mk (blk_below B3.out hb); have B4 := Aside0.mk hbox; have HG4 := Aside0.mk (show w.heap.size ≤ g4 from by have := HF1.out.size; omega); have HE := Aside0.mk (show g3 ≠ g4 from by have := blk_lt B3.out; omega); clear hb hbox hg4 x6 HA1 HF1 B3)
    | ((with_reducible refine gate_store (t := 73) (p := 4) (v := .tmp 7) rfl ?_); refine step_store rfl rfl rfl B4.out rfl (u := .agg #[.int .i64 0, .bool true]) (seg := [.int .i64 0, .bool true]) rfl rfl (by kernel_rfl) (by simp [Value.oneCell']) (Nat.le_refl 2) (cur' := #[.int .i64 0, .bool true]) rfl ?_; intro w3 hb3 hg3 hs3; have HA3 := Aside0.mk (HA2.out.grown hg3 (HH.out.new HG4.out)); have HF3 := Aside0.mk (HF2.out.grown hg3 (.inr HG4.out)); have B33 := Aside0.mk (blk_grown B32.out hg3 (fun e => HE.out (Option.some.inj e))); have B43 := Aside0.mk hb3; clear hb3 hg3 hs3 HA2 HF2 B32 B4; have x6 : w3.cell? ⟨g3, 6, none⟩ = some (.bool true) := (blk_cell B33.out 6).trans rfl))
  have x0 : w3.cell? ⟨g3, 0, none⟩ = some (.int .i64 xi) := (blk_cell B33.out 0).trans rfl
  have x1 : w3.cell? ⟨g3, 1, none⟩ = some (.int .i64 xk) := (blk_cell B33.out 1).trans rfl
  have x2 : w3.cell? ⟨g3, 2, none⟩ = some (.int .i64 xs) := (blk_cell B33.out 2).trans rfl
  have x3 : w3.cell? ⟨g3, 3, none⟩ = some (.int .i64 xg) := (blk_cell B33.out 3).trans rfl
  have x4 : w3.cell? ⟨g3, 4, none⟩ = some (.int .i64 xc) := (blk_cell B33.out 4).trans rfl
  have x5 : w3.cell? ⟨g3, 5, none⟩ = some (.int .u64 xt) := (blk_cell B33.out 5).trans rfl
  have x6 : w3.cell? ⟨g3, 6, none⟩ = some (.bool true) := (blk_cell B33.out 6).trans rfl
  have x7 : w3.cell? ⟨g3, 7, none⟩ = some (.int .u64 xp) := (blk_cell B33.out 7).trans rfl
  have pv : w3.cell? ⟨P.p, 3, none⟩ = some (.slice A nv.length c) := (blk_cell HA3.out.blk 3).trans rfl
  have pf : w3.frozen? ⟨P.p, 3, none⟩ = false := blk_frozen HA3.out.blk 3
  have HA4 := Aside0.mk HA3.out.drew
  have HF4 := Aside0.mk HF3.out.drew
  have B34 : Aside0 (w3.drew.heap[g3]? = some (.cells #[.int .i64 xi, .int .i64 xk, .int .i64 xs, .int .i64 xg, .int .i64 xc, .int .u64 xt, .bool true, .int .u64 xp] 40 (0, 0))) := ⟨B33.out⟩
  have B44 : Aside0 (w3.drew.heap[g4]? = some (.cells #[.int .i64 0, .bool true] 73 (0, 0))) := ⟨B43.out⟩
  have pva : (w3.alloc (.cells #[.int .i64 xi, .int .i64 xk, .int .i64 xs, .int .i64 xg, .int .i64 xc, .int .u64 xt, .bool true, .int .u64 xp] 40 (0, 0))).cell? ⟨P.p, 3, none⟩ = some (.slice A nv.length c) := ((below_alloc (Below.refl _ _) _).cell (p := ⟨P.p, 3, none⟩) (blk_lt HA3.out.blk)).trans pv
  clear HA3 HF3 B33 B43
  go_region_law ((refine Kd.R_append_step kT (w0 := w3.drew) (W := w3.drew) base ?q0 (.tmp 14) (.tmp 16) 37 40 (.agg #[.int .i64 0, .int .i64 0, .int .i64 0, .int .i64 0, .int .i64 0, .int .u64 0, .bool false, .int .u64 0]) 64 ?q3 Try.underlying37 infoT rfl (by decide) (by omega) (Value.slice A nv.length c) nv (⟨xi, xk, ⟨xs, xg⟩, xc, xt, true, xp⟩ : Tm) (List.toArray [.int .i64 xi, .int .i64 xk, .int .i64 xs, .int .i64 xg, .int .i64 xc, .int .u64 xt, .bool true, .int .u64 xp]).toList (fun k => P.N k ∨ w3.drew.heap.size ≤ k) (fun _ => False) ?q1 ?q2 (k40_mkM _ _ _ _) (fun _ h => h.elim) ?aF ?aO (Below.refl _ _) ?aS hsm ?_); (case q0 => rfl); (case q1 => rfl); (case q2 => rfl); (case q3 => rfl); (case aF => exact fun k hk => .inr hk); (case aO => exact Kd.R_mono HA4.out.row (fun k hk => .inl hk)); (case aS => exact HA4.out.le); intro v1 w5 hrow hb5 hg5 hat; obtain ⟨A1, c1, rfl⟩ := Kd.R_slice hrow; have HP5 := blk_grown HA4.out.blk hg5 (fun e => (HA4.out.fine.N P.p (HA4.out.row.1 P.p e.symm)).1 rfl); have hp5 : w5.cell? ⟨P.p, 3, none⟩ = some (Value.slice A nv.length c) := (blk_cell HP5 3).trans rfl; have hf5 : w5.frozen? ⟨P.p, 3, none⟩ = false := blk_frozen HP5 3)
  all_goals
    obtain ⟨hb6, hg6⟩ := set_step HP5 3 (.slice A1 (nv.length + 1) c1) (cur' := cS last P.q (.slice A1 (nv.length + 1) c1) P.bi P.bo P.bg) rfl
    have hk6 : Kept w3.drew (w5.setCell ⟨P.p, 3, none⟩ (.slice A1 (nv.length + 1) c1)) (fun k => P.N k ∨ k = P.p) := Kept.of_grown hg6 (Kept.of_grown hg5 (Kept.refl _ _) (fun k e => .inl (.inl (HA4.out.row.1 k e)))) (fun k e => .inl (.inr (Option.some.inj e).symm))
    have HF6 := Aside0.mk ((HF4.out.grownO hg5 (fun k hk => .inl (.inr (.inr (.inr (.inr (.inr (HA4.out.row.1 k hk)))))))).grown hg6 (.inl (.inl rfl)))
    have hr6 : kT.R 40 (w5.setCell ⟨P.p, 3, none⟩ (.slice A1 (nv.length + 1) c1)) base (fun k => (P.N k ∨ w3.drew.heap.size ≤ k) ∧ k < (w5.setCell ⟨P.p, 3, none⟩ (.slice A1 (nv.length + 1) c1)).heap.size) (.slice A1 (nv.length + 1) c1) (nv ++ [⟨xi, xk, ⟨xs, xg⟩, xc, xt, true, xp⟩]) := by
      have h1 := Kd.R_grown hrow hg6 (fun k hk e => by cases e; exact hk.elim (fun q => (HA4.out.fine.N _ q).1 rfl) (fun q => by have := HA4.out.fine.bound _ (.inl rfl); omega))
      rw [List.length_append] at h1
      exact Kd.R_mono (Kd.R_bound h1) (fun k hk => ⟨hk.1, hk.2.2.1⟩)
    have HA6 := Aside0.mk (HA4.out.rowed (N' := (fun k => (P.N k ∨ w3.drew.heap.size ≤ k) ∧ k < (w5.setCell ⟨P.p, 3, none⟩ (.slice A1 (nv.length + 1) c1)).heap.size)) hb6 hr6 hk6 (fun k q => q))
    have B36 := Aside0.mk (blk_grown (blk_grown B34.out hg5 (fun e => HH.out.new HG3.out (.inr (.inr (.inr (.inr (.inr (HA4.out.row.1 g3 e.symm)))))))) hg6 (fun e => HH.out.new HG3.out (.inl (Option.some.inj e))))
    have B46 := Aside0.mk (blk_grown (blk_grown B44.out hg5 (fun e => HH.out.new HG4.out (.inr (.inr (.inr (.inr (.inr (HA4.out.row.1 g4 e.symm)))))))) hg6 (fun e => HH.out.new HG4.out (.inl (Option.some.inj e))))
    have HZ3 := Aside0.mk (Pl.nokN (N' := (fun k => (P.N k ∨ w3.drew.heap.size ≤ k) ∧ k < (w5.setCell ⟨P.p, 3, none⟩ (.slice A1 (nv.length + 1) c1)).heap.size)) (HH.out.new HG3.out) (fun q => q.1.elim (fun r => HH.out.new HG3.out (.inr (.inr (.inr (.inr (.inr r)))))) (fun r => by have := blk_lt B34.out; omega)))
    have HZ4 := Aside0.mk (Pl.nokN (N' := (fun k => (P.N k ∨ w3.drew.heap.size ≤ k) ∧ k < (w5.setCell ⟨P.p, 3, none⟩ (.slice A1 (nv.length + 1) c1)).heap.size)) (HH.out.new HG4.out) (fun q => q.1.elim (fun r => HH.out.new HG4.out (.inr (.inr (.inr (.inr (.inr r)))))) (fun r => by have := blk_lt B44.out; omega)))
    have HN5 : Aside0 (∀ k, (fun k => (P.N k ∨ w3.drew.heap.size ≤ k) ∧ k < (w5.setCell ⟨P.p, 3, none⟩ (.slice A1 (nv.length + 1) c1)).heap.size) k → P.N k ∨ w.heap.size ≤ k) := ⟨fun k q => q.1.imp id (Nat.le_trans HF4.out.size)⟩
    clear hb6 hg6 hb5 hg5 hrow hat HP5 hp5 hf5 pva pv pf x0 x1 x2 x3 x4 x5 x6 x7 hr6 hk6 HA4 HF4 B34 B44
    generalize (fun k => (P.N k ∨ w3.drew.heap.size ≤ k) ∧ k < (w5.setCell ⟨P.p, 3, none⟩ (.slice A1 (nv.length + 1) c1)).heap.size) = N' at *
    generalize w5.setCell ⟨P.p, 3, none⟩ (.slice A1 (nv.length + 1) c1) = w6 at *
    go_wp2
    have x0 : w6.cell? ⟨g3, 0, none⟩ = some (.int .i64 xi) := (blk_cell B36.out 0).trans rfl
    have x1 : w6.cell? ⟨g3, 1, none⟩ = some (.int .i64 xk) := (blk_cell B36.out 1).trans rfl
    have x2 : w6.cell? ⟨g3, 2, none⟩ = some (.int .i64 xs) := (blk_cell B36.out 2).trans rfl
    have x3 : w6.cell? ⟨g3, 3, none⟩ = some (.int .i64 xg) := (blk_cell B36.out 3).trans rfl
    have x4 : w6.cell? ⟨g3, 4, none⟩ = some (.int .i64 xc) := (blk_cell B36.out 4).trans rfl
    have x5 : w6.cell? ⟨g3, 5, none⟩ = some (.int .u64 xt) := (blk_cell B36.out 5).trans rfl
    have x6 : w6.cell? ⟨g3, 6, none⟩ = some (.bool true) := (blk_cell B36.out 6).trans rfl
    have x7 : w6.cell? ⟨g3, 7, none⟩ = some (.int .u64 xp) := (blk_cell B36.out 7).trans rfl
    have y0 : w6.cell? ⟨g4, 0, none⟩ = some (.int .i64 0) := (blk_cell B46.out 0).trans rfl
    have y1 : w6.cell? ⟨g4, 1, none⟩ = some (.bool true) := (blk_cell B46.out 1).trans rfl
    have pi : w6.cell? ⟨P.p, 4, none⟩ = some (.map (some P.bi)) := (blk_cell HA6.out.blk 4).trans rfl
    have po : w6.cell? ⟨P.p, 5, none⟩ = some (.map (some P.bo)) := (blk_cell HA6.out.blk 5).trans rfl
    have HA7 := Aside0.mk HA6.out.drew
    have HF7 := Aside0.mk HF6.out.drew
    have B37 : w6.drew.heap[g3]? = some (.cells #[.int .i64 xi, .int .i64 xk, .int .i64 xs, .int .i64 xg, .int .i64 xc, .int .u64 xt, .bool true, .int .u64 xp] 40 (0, 0)) := B36.out
    have B47 : w6.drew.heap[g4]? = some (.cells #[.int .i64 0, .bool true] 73 (0, 0)) := B46.out
    have n4i : some g4 ≠ some P.bi := fun e => HZ4.out (.inr (.inl (Option.some.inj e)))
    have n3i : some g3 ≠ some P.bi := fun e => HZ3.out (.inr (.inl (Option.some.inj e)))
    have n4o : some g4 ≠ some P.bo := fun e => HZ4.out (.inr (.inr (.inl (Option.some.inj e))))
    have n3o : some g3 ≠ some P.bo := fun e => HZ3.out (.inr (.inr (.inl (Option.some.inj e))))
    have npi : some P.p ≠ some P.bi := fun e => HA7.out.fine.pi (Option.some.inj e)
    have npo : some P.p ≠ some P.bo := fun e => HA7.out.fine.po (Option.some.inj e)
    obtain ⟨v0, st, w8, h8, hE8, hg8, -⟩ := run_entry keyL Try.underlying54 (zeroP _) HA7.out.mi xi
    obtain ⟨w9, h9, hm9, hg9, -⟩ := run_estore (P := Try.prog) (T := 54) hE8 (plc 0 true)
    have HA9 := HA7.out.ided hm9 (grown_trans hg8 hg9)
    have B39 := blk_grown B37 (grown_trans hg8 hg9) n3i
    have B49 := blk_grown B47 (grown_trans hg8 hg9) n4i
    obtain ⟨v1, st1, w10, h10, hE10, hg10, -⟩ := run_entry keyL Try.underlying55 (zeroT _) HA9.mo xi
    obtain ⟨w11, h11, hm11, hg11, -⟩ := run_estore (P := Try.prog) (T := 55) hE10 (.agg #[.int .i64 xi, .int .i64 xk, .int .i64 xs, .int .i64 xg, .int .i64 xc, .int .u64 xt, .bool true, .int .u64 xp])
    have HA11 := Aside0.mk (HA9.owned hm11 (grown_trans hg10 hg11))
    have HF11 := Aside0.mk ((HF7.out.grown (grown_trans hg8 hg9) (.inl (.inr (.inl rfl)))).grown (grown_trans hg10 hg11) (.inl (.inr (.inr (.inl rfl)))))
    have B311 := Aside0.mk (blk_grown B39 (grown_trans hg10 hg11) n3o)
    have K8 : Aside0 (w8.cell? ⟨P.p, 4, none⟩ = some (.map (some P.bi)) ∧ w8.cell? ⟨P.p, 5, none⟩ = some (.map (some P.bo)) ∧ w8.cell? ⟨g3, 0, none⟩ = some (.int .i64 xi) ∧ w8.cell? ⟨g3, 1, none⟩ = some (.int .i64 xk) ∧ w8.cell? ⟨g3, 2, none⟩ = some (.int .i64 xs) ∧ w8.cell? ⟨g3, 3, none⟩ = some (.int .i64 xg) ∧ w8.cell? ⟨g3, 4, none⟩ = some (.int .i64 xc) ∧ w8.cell? ⟨g3, 5, none⟩ = some (.int .u64 xt) ∧ w8.cell? ⟨g3, 6, none⟩ = some (.bool true) ∧ w8.cell? ⟨g3, 7, none⟩ = some (.int .u64 xp) ∧ w8.cell? ⟨g4, 0, none⟩ = some (.int .i64 0) ∧ w8.cell? ⟨g4, 1, none⟩ = some (.bool true)) := ⟨⟨(blk_cell (blk_grown HA7.out.blk hg8 npi) 4).trans rfl, (blk_cell (blk_grown HA7.out.blk hg8 npi) 5).trans rfl, (blk_cell (blk_grown B37 hg8 n3i) 0).trans rfl, (blk_cell (blk_grown B37 hg8 n3i) 1).trans rfl, (blk_cell (blk_grown B37 hg8 n3i) 2).trans rfl, (blk_cell (blk_grown B37 hg8 n3i) 3).trans rfl, (blk_cell (blk_grown B37 hg8 n3i) 4).trans rfl, (blk_cell (blk_grown B37 hg8 n3i) 5).trans rfl, (blk_cell (blk_grown B37 hg8 n3i) 6).trans rfl, (blk_cell (blk_grown B37 hg8 n3i) 7).trans rfl, (blk_cell (blk_grown B47 hg8 n4i) 0).trans rfl, (blk_cell (blk_grown B47 hg8 n4i) 1).trans rfl⟩⟩
    have K9 : Aside0 (w9.cell? ⟨P.p, 4, none⟩ = some (.map (some P.bi)) ∧ w9.cell? ⟨P.p, 5, none⟩ = some (.map (some P.bo)) ∧ w9.cell? ⟨g3, 0, none⟩ = some (.int .i64 xi) ∧ w9.cell? ⟨g3, 1, none⟩ = some (.int .i64 xk) ∧ w9.cell? ⟨g3, 2, none⟩ = some (.int .i64 xs) ∧ w9.cell? ⟨g3, 3, none⟩ = some (.int .i64 xg) ∧ w9.cell? ⟨g3, 4, none⟩ = some (.int .i64 xc) ∧ w9.cell? ⟨g3, 5, none⟩ = some (.int .u64 xt) ∧ w9.cell? ⟨g3, 6, none⟩ = some (.bool true) ∧ w9.cell? ⟨g3, 7, none⟩ = some (.int .u64 xp) ∧ w9.cell? ⟨g4, 0, none⟩ = some (.int .i64 0) ∧ w9.cell? ⟨g4, 1, none⟩ = some (.bool true)) := ⟨⟨(blk_cell HA9.blk 4).trans rfl, (blk_cell HA9.blk 5).trans rfl, (blk_cell B39 0).trans rfl, (blk_cell B39 1).trans rfl, (blk_cell B39 2).trans rfl, (blk_cell B39 3).trans rfl, (blk_cell B39 4).trans rfl, (blk_cell B39 5).trans rfl, (blk_cell B39 6).trans rfl, (blk_cell B39 7).trans rfl, (blk_cell B49 0).trans rfl, (blk_cell B49 1).trans rfl⟩⟩
    have K10 : Aside0 (w10.cell? ⟨P.p, 4, none⟩ = some (.map (some P.bi)) ∧ w10.cell? ⟨P.p, 5, none⟩ = some (.map (some P.bo)) ∧ w10.cell? ⟨g3, 0, none⟩ = some (.int .i64 xi) ∧ w10.cell? ⟨g3, 1, none⟩ = some (.int .i64 xk) ∧ w10.cell? ⟨g3, 2, none⟩ = some (.int .i64 xs) ∧ w10.cell? ⟨g3, 3, none⟩ = some (.int .i64 xg) ∧ w10.cell? ⟨g3, 4, none⟩ = some (.int .i64 xc) ∧ w10.cell? ⟨g3, 5, none⟩ = some (.int .u64 xt) ∧ w10.cell? ⟨g3, 6, none⟩ = some (.bool true) ∧ w10.cell? ⟨g3, 7, none⟩ = some (.int .u64 xp) ∧ w10.cell? ⟨g4, 0, none⟩ = some (.int .i64 0) ∧ w10.cell? ⟨g4, 1, none⟩ = some (.bool true)) := ⟨⟨(blk_cell (blk_grown HA9.blk hg10 npo) 4).trans rfl, (blk_cell (blk_grown HA9.blk hg10 npo) 5).trans rfl, (blk_cell (blk_grown B39 hg10 n3o) 0).trans rfl, (blk_cell (blk_grown B39 hg10 n3o) 1).trans rfl, (blk_cell (blk_grown B39 hg10 n3o) 2).trans rfl, (blk_cell (blk_grown B39 hg10 n3o) 3).trans rfl, (blk_cell (blk_grown B39 hg10 n3o) 4).trans rfl, (blk_cell (blk_grown B39 hg10 n3o) 5).trans rfl, (blk_cell (blk_grown B39 hg10 n3o) 6).trans rfl, (blk_cell (blk_grown B39 hg10 n3o) 7).trans rfl, (blk_cell (blk_grown B49 hg10 n4o) 0).trans rfl, (blk_cell (blk_grown B49 hg10 n4o) 1).trans rfl⟩⟩
    have K11 : Aside0 (w11.cell? ⟨P.p, 4, none⟩ = some (.map (some P.bi)) ∧ w11.cell? ⟨P.p, 5, none⟩ = some (.map (some P.bo)) ∧ w11.cell? ⟨g3, 0, none⟩ = some (.int .i64 xi) ∧ w11.cell? ⟨g3, 1, none⟩ = some (.int .i64 xk) ∧ w11.cell? ⟨g3, 2, none⟩ = some (.int .i64 xs) ∧ w11.cell? ⟨g3, 3, none⟩ = some (.int .i64 xg) ∧ w11.cell? ⟨g3, 4, none⟩ = some (.int .i64 xc) ∧ w11.cell? ⟨g3, 5, none⟩ = some (.int .u64 xt) ∧ w11.cell? ⟨g3, 6, none⟩ = some (.bool true) ∧ w11.cell? ⟨g3, 7, none⟩ = some (.int .u64 xp) ∧ w11.cell? ⟨g4, 0, none⟩ = some (.int .i64 0) ∧ w11.cell? ⟨g4, 1, none⟩ = some (.bool true)) := ⟨⟨(blk_cell HA11.out.blk 4).trans rfl, (blk_cell HA11.out.blk 5).trans rfl, (blk_cell B311.out 0).trans rfl, (blk_cell B311.out 1).trans rfl, (blk_cell B311.out 2).trans rfl, (blk_cell B311.out 3).trans rfl, (blk_cell B311.out 4).trans rfl, (blk_cell B311.out 5).trans rfl, (blk_cell B311.out 6).trans rfl, (blk_cell B311.out 7).trans rfl, (blk_cell (blk_grown B49 (grown_trans hg10 hg11) n4o) 0).trans rfl, (blk_cell (blk_grown B49 (grown_trans hg10 hg11) n4o) 1).trans rfl⟩⟩
    clear hE8 hg8 hm9 hg9 hE10 hg10 hm11 hg11 HA9 B37 B47 B39 B49 n3i n4i n3o n4o npi npo
    go_region_held3 (fun w' => w'.cell? ⟨P.p, 4, none⟩ = some (.map (some P.bi)) ∧ w'.cell? ⟨P.p, 5, none⟩ = some (.map (some P.bo)) ∧ w'.cell? ⟨g3, 0, none⟩ = some (.int .i64 xi) ∧ w'.cell? ⟨g3, 1, none⟩ = some (.int .i64 xk) ∧ w'.cell? ⟨g3, 2, none⟩ = some (.int .i64 xs) ∧ w'.cell? ⟨g3, 3, none⟩ = some (.int .i64 xg) ∧ w'.cell? ⟨g3, 4, none⟩ = some (.int .i64 xc) ∧ w'.cell? ⟨g3, 5, none⟩ = some (.int .u64 xt) ∧ w'.cell? ⟨g3, 6, none⟩ = some (.bool true) ∧ w'.cell? ⟨g3, 7, none⟩ = some (.int .u64 xp) ∧ w'.cell? ⟨g4, 0, none⟩ = some (.int .i64 0) ∧ w'.cell? ⟨g4, 1, none⟩ = some (.bool true)) (first | exact K8.out | exact K9.out | exact K10.out | exact K11.out | go_keep) (fail)
    clear K8 K9 K10 K11 h8 h9 h10 h11 x0 x1 x2 x3 x4 x5 x6 x7 y0 y1 pi po HA6 HF6 B36 B46 HA7 HF7
    rename_i hHeld
    clear hHeld
    have x1 : w11.cell? ⟨g3, 1, none⟩ = some (.int .i64 xk) := (blk_cell B311.out 1).trans rfl
    by_cases hk : xk = 1
    · subst hk
      go_wp2
      have x0 : w11.cell? ⟨g3, 0, none⟩ = some (.int .i64 xi) := (blk_cell B311.out 0).trans rfl
      have x2 : w11.cell? ⟨g3, 2, none⟩ = some (.int .i64 xs) := (blk_cell B311.out 2).trans rfl
      have x3 : w11.cell? ⟨g3, 3, none⟩ = some (.int .i64 xg) := (blk_cell B311.out 3).trans rfl
      have pg : w11.cell? ⟨P.p, 6, none⟩ = some (.map (some P.bg)) := (blk_cell HA11.out.blk 6).trans rfl
      go_still_tail 8, (by kernel_rfl)
      change wpList _ _ _ _ _ w11.drew
      have HA12 := Aside0.mk HA11.out.drew
      have HF12 := Aside0.mk HF11.out.drew
      clear x0 x1 x2 x3 pg HA11 HF11 B311
      generalize w11.drew = w12 at *
      go_wp2_with ((with_reducible refine gate_put (T := 56) (x := .tmp 53) (y := .tmp 55) (u := .tmp 57) rfl ?_); refine step_put keyG Try.underlying56 rfl rfl HA12.out.mg (xs, xg) (.int .i64 xi) rfl rfl rfl ?_; intro w13 hm hg hs; have HA13 := Aside0.mk (HA12.out.gsed hm hg); have HF13 := Aside0.mk (HF12.out.grown hg (.inl (.inr (.inr (.inr (.inl rfl)))))); clear hm hg hs HA12 HF12)
      go_end0
      first | refine ⟨N', (.slice A1 (nv.length + 1) c1), rfl, ?_, HN5.out, HF13.out⟩ | refine ⟨rfl, N', (.slice A1 (nv.length + 1) c1), ?_, HN5.out, HF13.out⟩ | refine ⟨rfl, N', ⟨(.slice A1 (nv.length + 1) c1), ?_⟩, HN5.out, HF13.out⟩ | refine ⟨N', rfl, (.slice A1 (nv.length + 1) c1), ?_, HN5.out, HF13.out⟩
      rw [show gsN 1 xs xg xi gs = ins (xs, xg) (.int .i64 xi) gs from if_pos rfl]
      exact HA13.out
    · have hk' : (xk == 1) = false := by simp [hk]
      go_wp2
      go_end0
      first | refine ⟨N', (.slice A1 (nv.length + 1) c1), rfl, ?_, HN5.out, HF11.out⟩ | refine ⟨rfl, N', (.slice A1 (nv.length + 1) c1), ?_, HN5.out, HF11.out⟩ | refine ⟨rfl, N', ⟨(.slice A1 (nv.length + 1) c1), ?_⟩, HN5.out, HF11.out⟩ | refine ⟨N', rfl, (.slice A1 (nv.length + 1) c1), ?_, HN5.out, HF11.out⟩
      rw [show gsN xk xs xg xi gs = gs from if_neg hk]
      exact HA11.out
end Go.Proofs.Ytceopcfmhidjlaa.PTimerPlays
set_option linter.unusedVariables false
set_option linter.unusedSimpArgs false
namespace Go.Proofs.Ytceopcfmhidjlaa.PTimerPlays
open Go.RowKit Go.Proofs.Ytceopcfmhidjlaa.Ef Go.Proofs.Ytceopcfmhidjlaa.Mp Go.Proofs.Ytceopcfmhidjlaa.Hp
/-! ### lists of keys and values -/
section
variable {κ : Type} [DecidableEq κ]
theorem look_fresh : ∀ (l : List (κ × Value)) (k : κ) (i : Nat), (∀ p ∈ l, p.1 ≠ k) → Mp.look k l i = none
  | [], _, _, _ => rfl
  | (a, v) :: r, k, i, h => by
    unfold Mp.look
    rw [if_neg (h (a, v) List.mem_cons_self)]
    exact look_fresh r k (i + 1) (fun p hp => h p (List.mem_cons_of_mem _ hp))
theorem ins_new {l : List (κ × Value)} {k : κ} (v : Value) (h : ∀ p ∈ l, p.1 ≠ k) : ins k v l = l ++ [(k, v)] := (look_none l k 0 (look_fresh l k 0 h)).1 v
theorem get_fresh {l : List (κ × Value)} {k : κ} (h : ∀ p ∈ l, p.1 ≠ k) : get k l = none := by rw [look_get, look_fresh l k 0 h]; rfl
theorem get_key_cons {k a : κ} {v : Value} {r : List (κ × Value)} : get k ((a, v) :: r) = if a = k then some v else get k r := by
  show (Mp.look k ((a, v) :: r) 0).map (·.2) = if a = k then some v else (Mp.look k r 0).map (·.2)
  rw [Mp.look]
  by_cases e : a = k
  · rw [if_pos e, if_pos e]; rfl
  · rw [if_neg e, if_neg e]
    have : ∀ (l : List (κ × Value)) (i j : Nat), (Mp.look k l i).map (·.2) = (Mp.look k l j).map (·.2) := by
      intro l
      induction l with
      | nil => intro i j; rfl
      | cons p r ih =>
        intro i j
        obtain ⟨b, u⟩ := p
        unfold Mp.look
        by_cases e : b = k
        · rw [if_pos e, if_pos e]; rfl
        · rw [if_neg e, if_neg e]; exact ih _ _
    exact this r 1 0
theorem get_mem {k : κ} {v : Value} : ∀ {l : List (κ × Value)}, (l.map (·.1)).Nodup → (k, v) ∈ l → get k l = some v
  | [], _, h => by cases h
  | (a, u) :: r, hn, h => by
    rw [get_key_cons]
    rw [List.map_cons, List.nodup_cons] at hn
    rcases List.mem_cons.1 h with e | e
    · obtain ⟨rfl, rfl⟩ := Prod.mk.inj e
      rw [if_pos rfl]
    · rw [if_neg (fun q => hn.1 (List.mem_map.2 ⟨(k, v), e, q.symm⟩))]
      exact get_mem hn.2 e
theorem del_perm {k : κ} {v : Value} : ∀ {l : List (κ × Value)}, (l.map (·.1)).Nodup → (k, v) ∈ l → l.Perm ((k, v) :: del k l)
  | [], _, h => by cases h
  | (a, u) :: r, hn, h => by
    rw [List.map_cons, List.nodup_cons] at hn
    rcases List.mem_cons.1 h with e | e
    · obtain ⟨rfl, rfl⟩ := Prod.mk.inj e
      rw [del, if_pos rfl]
    · rw [del, if_neg (fun q => hn.1 (List.mem_map.2 ⟨(k, v), e, q.symm⟩))]
      exact ((del_perm hn.2 e).cons _).trans (.swap _ _ _)
theorem del_to {k : κ} {v : Value} {l r : List (κ × Value)} (hn : (l.map (·.1)).Nodup) (h : l.Perm ((k, v) :: r)) : (del k l).Perm r :=
  List.Perm.cons_inv ((del_perm hn (h.mem_iff.2 List.mem_cons_self)).symm.trans h)
end
/-! ### what runs -/
structure TS where
  last : Int
  hp : List NI
  next : Int
  nv : List Tm
def TS.all (S : TS) : List Tm := S.hp.map (·.val) ++ S.nv
abbrev gk (x : Tm) : Int × Int := (x.f2.f0, x.f2.f1)
def TS.sl (S : TS) : List Tm := S.all.filter (fun x => x.f1 == 1)
abbrev idN (n : NI) : Int × Value := (n.val.f0, plc n.num false)
abbrev idV (x : Tm) : Int × Value := (x.f0, plc 0 true)
abbrev owP (x : Tm) : Int × Value := (x.f0, .agg (cT x))
abbrev gsP (x : Tm) : (Int × Int) × Value := (gk x, .int .i64 x.f0)
def TS.ids (S : TS) : List (Int × Value) := S.hp.map idN ++ S.nv.map idV
def TS.own (S : TS) : List (Int × Value) := S.all.map owP
def TS.gs (S : TS) : List ((Int × Int) × Value) := S.sl.map gsP
/-- What the maps hold is what the timers tell; and what is true of the timers. -/
structure Good (S : TS) (ids own : List (Int × Value)) (gs : List ((Int × Int) × Value)) : Prop where
  pi : ids.Perm S.ids
  po : own.Perm S.own
  pg : gs.Perm S.gs
  ni : (S.all.map (·.f0)).Nodup
  ng : (S.sl.map gk).Nodup
  hd : ∀ n ∈ S.hp, n.val.f5 = false ∧ n.val.f4 = n.when
  nd : ∀ x ∈ S.nv, x.f5 = true
  idl : ∀ x ∈ S.all, x.f0 ≤ S.last
  num : ∀ n ∈ S.hp, n.num < S.next
  n0 : 0 ≤ S.next
  l0 : 0 ≤ S.last
  len : S.all.length ≤ 1024
def TS.arm (S : TS) (x : Tm) : TS := if x.f5 = true then { S with nv := S.nv ++ [x] } else { S with hp := S.hp ++ [⟨x.f4, S.next, x⟩], next := S.next + 1 }
structure Fresh (S : TS) (x : Tm) : Prop where
  i : ∀ y ∈ S.all, y.f0 ≠ x.f0
  g : x.f1 = 1 → ∀ y ∈ S.sl, gk y ≠ gk x
  l : x.f0 ≤ S.last
  n : S.all.length < 1024
theorem perm_mid {α : Type} (A B : List α) (a : α) : (A ++ [a] ++ B).Perm (A ++ B ++ [a]) := by
  rw [List.append_assoc, List.append_assoc]
  exact (List.perm_append_comm).append_left A
theorem arm_all (S : TS) (x : Tm) : (S.arm x).all.Perm (S.all ++ [x]) := by
  unfold TS.arm TS.all
  by_cases h : x.f5 = true
  · rw [if_pos h]
    simp only [List.append_assoc]
    exact .refl _
  · rw [if_neg h]
    simp only [List.map_append, List.map_cons, List.map_nil]
    exact perm_mid _ _ _
theorem arm_last (S : TS) (x : Tm) : (S.arm x).last = S.last := by unfold TS.arm; by_cases h : x.f5 = true; rw [if_pos h]; rw [if_neg h]
theorem arm_next (S : TS) (x : Tm) : S.next ≤ (S.arm x).next ∧ (S.arm x).next ≤ S.next + 1 := by
  unfold TS.arm
  by_cases h : x.f5 = true
  · rw [if_pos h]; exact ⟨Int.le_refl _, by show S.next ≤ S.next + 1; omega⟩
  · rw [if_neg h]; exact ⟨by show S.next ≤ S.next + 1; omega, Int.le_refl _⟩
theorem ids_key {S : TS} {ids own : List (Int × Value)} {gs : List ((Int × Int) × Value)} (G : Good S ids own gs) : (ids.map (·.1)).Nodup := by
  refine ((G.pi.map (·.1)).nodup_iff).2 ?_
  have : S.ids.map (·.1) = S.all.map (·.f0) := by simp [TS.ids, TS.all, Function.comp_def]
  rw [this]
  exact G.ni
theorem own_key {S : TS} {ids own : List (Int × Value)} {gs : List ((Int × Int) × Value)} (G : Good S ids own gs) : (own.map (·.1)).Nodup := by
  refine ((G.po.map (·.1)).nodup_iff).2 ?_
  have : S.own.map (·.1) = S.all.map (·.f0) := by simp [TS.own, Function.comp_def]
  rw [this]
  exact G.ni
theorem gs_key {S : TS} {ids own : List (Int × Value)} {gs : List ((Int × Int) × Value)} (G : Good S ids own gs) : (gs.map (·.1)).Nodup := by
  refine ((G.pg.map (·.1)).nodup_iff).2 ?_
  have : S.gs.map (·.1) = S.sl.map gk := by simp [TS.gs, Function.comp_def]
  rw [this]
  exact G.ng
theorem ids_len {S : TS} {ids own : List (Int × Value)} {gs : List ((Int × Int) × Value)} (G : Good S ids own gs) : ids.length = S.all.length := by
  rw [G.pi.length_eq]
  simp [TS.ids, TS.all]
theorem Good.arm {S : TS} {ids own : List (Int × Value)} {gs : List ((Int × Int) × Value)} (G : Good S ids own gs) {x : Tm} (F : Fresh S x) :
    Good (S.arm x) (ins x.f0 (plc (if x.f5 = true then 0 else S.next) x.f5) ids) (ins x.f0 (.agg (cT x)) own) (gsN x.f1 x.f2.f0 x.f2.f1 x.f0 gs) := by
  have hp := arm_all S x
  have hi : ∀ p ∈ ids, p.1 ≠ x.f0 := fun p q => by
    have := G.pi.mem_iff.1 q
    have h2 : p.1 ∈ S.ids.map (·.1) := List.mem_map.2 ⟨p, this, rfl⟩
    have h3 : S.ids.map (·.1) = S.all.map (·.f0) := by simp [TS.ids, TS.all, Function.comp_def]
    rw [h3] at h2
    obtain ⟨y, hy, e⟩ := List.mem_map.1 h2
    rw [← e]
    exact F.i y hy
  have ho : ∀ p ∈ own, p.1 ≠ x.f0 := fun p q => by
    have := G.po.mem_iff.1 q
    obtain ⟨y, hy, e⟩ := List.mem_map.1 this
    rw [← e]
    exact F.i y hy
  have hsl : (S.arm x).sl.Perm (S.sl ++ (if x.f1 = 1 then [x] else [])) := by
    unfold TS.sl
    refine (hp.filter _).trans (List.Perm.of_eq ?_)
    rw [List.filter_append]
    congr 1
    by_cases h : x.f1 = 1
    · rw [if_pos h]; simp [h]
    · rw [if_neg h]; simp [h]
  refine ⟨?_, ?_, ?_, ?_, ?_, ?_, ?_, ?_, ?_, ?_, ?_, ?_⟩
  · rw [ins_new _ hi]
    refine (G.pi.append_right _).trans ?_
    unfold TS.arm TS.ids
    by_cases h : x.f5 = true
    · simp only [if_pos h]
      rw [List.map_append, List.append_assoc, List.map_cons, List.map_nil]
      refine List.Perm.of_eq ?_
      rw [h]
    · simp only [if_neg h]
      rw [List.map_append, List.map_cons, List.map_nil]
      refine (List.Perm.of_eq ?_).trans (perm_mid _ _ _).symm
      rw [show x.f5 = false by simpa using h]
  · rw [ins_new _ ho]
    refine (G.po.append_right _).trans ?_
    refine List.Perm.trans (List.Perm.of_eq ?_) ((hp.map owP).symm)
    rw [List.map_append]
    rfl
  · refine List.Perm.trans ?_ ((hsl.map gsP).symm)
    unfold gsN
    rw [List.map_append]
    by_cases h : x.f1 = 1
    · rw [if_pos h, if_pos h, ins_new]
      · exact G.pg.append_right _
      · intro p q
        obtain ⟨y, hy, e⟩ := List.mem_map.1 (G.pg.mem_iff.1 q)
        rw [← e]
        exact F.g h y hy
    · rw [if_neg h, if_neg h]
      simpa [TS.gs] using G.pg
  · refine ((hp.map (·.f0)).nodup_iff).2 ?_
    rw [List.map_append, List.nodup_append]
    refine ⟨G.ni, by simp, fun a ha b hb e => ?_⟩
    obtain ⟨y, hy, rfl⟩ := List.mem_map.1 ha
    rw [List.map_cons, List.map_nil, List.mem_singleton] at hb
    exact F.i y hy (e.trans hb)
  · refine ((hsl.map gk).nodup_iff).2 ?_
    rw [List.map_append, List.nodup_append]
    refine ⟨G.ng, by split <;> simp, fun a ha b hb e => ?_⟩
    obtain ⟨y, hy, rfl⟩ := List.mem_map.1 ha
    by_cases h : x.f1 = 1
    · rw [if_pos h, List.map_cons, List.map_nil, List.mem_singleton] at hb
      exact F.g h y hy (e.trans hb)
    · rw [if_neg h] at hb
      cases hb
  · unfold TS.arm
    by_cases h : x.f5 = true
    · rw [if_pos h]; exact G.hd
    · rw [if_neg h]
      intro n hn
      rcases List.mem_append.1 hn with q | q
      · exact G.hd n q
      · rw [List.mem_singleton.1 q]; exact ⟨by simpa using h, rfl⟩
  · unfold TS.arm
    by_cases h : x.f5 = true
    · rw [if_pos h]
      intro n hn
      rcases List.mem_append.1 hn with q | q
      · exact G.nd n q
      · rw [List.mem_singleton.1 q]; exact h
    · rw [if_neg h]; exact G.nd
  · rw [arm_last]
    intro y hy
    rcases List.mem_append.1 (hp.mem_iff.1 hy) with q | q
    · exact G.idl y q
    · rw [List.mem_singleton.1 q]; exact F.l
  · unfold TS.arm
    by_cases h : x.f5 = true
    · rw [if_pos h]; exact G.num
    · rw [if_neg h]
      intro n hn
      rcases List.mem_append.1 hn with q | q
      · have := G.num n q; show n.num < S.next + 1; omega
      · rw [List.mem_singleton.1 q]; show S.next < S.next + 1; omega
  · exact Int.le_trans G.n0 (arm_next S x).1
  · rw [arm_last]; exact G.l0
  · rw [hp.length_eq, List.length_append]; exact F.n
end Go.Proofs.Ytceopcfmhidjlaa.PTimerPlays
set_option linter.unusedVariables false
set_option linter.unusedSimpArgs false
namespace Go.Proofs.Ytceopcfmhidjlaa.PTimerPlays
open Go.RowKit Go.Proofs.Ytceopcfmhidjlaa.Ef Go.Proofs.Ytceopcfmhidjlaa.Mp Go.Proofs.Ytceopcfmhidjlaa.Hp Go.Proofs.YtceopcfmhidjlaaW.PrintWords Go.Proofs.YtceopcfmhidjlaaW.PrintLast Go.Proofs.YtceopcfmhidjlaaW.PrintMore
theorem add64 (x y : Int) (hx : 0 ≤ x) (hy : 0 ≤ y) (w : World) : (callFunc 60 #[.int .u64 x, .int .u64 y, .int .u64 0]).run Try.prog w =
    .ok (.value (.tuple #[.int .u64 ((x + y) % 18446744073709551616), .int .u64 ((x + y) / 18446744073709551616)])) w := by
  rw [run_callFunc_extern Try.func60 (by kernel_rfl) (by kernel_rfl) (by kernel_rfl) (e := add64Entry) (by kernel_rfl), run_add64 x y 0 hx hy (by omega) (by omega)]
  simp [Result.andThen]
/-- A time in some ticks; 0 where there is none. -/
def ltr (a b : Int) : Int := if a + b < 18446744073709551616 then a + b else 0
def nvr (a b : Int) : Bool := decide (18446744073709551616 ≤ a + b)
theorem tick_add (a b : Int) (ha : 0 ≤ a) (ha1 : a < 18446744073709551616) (hb : 0 ≤ b) (hb1 : b < 18446744073709551616) (w : World) :
    Calls Try.prog 43 #[.int .u64 a, .int .u64 b] w fun e w' => e = .returned (.tuple #[.int .u64 (ltr a b), .int .i64 (if nvr a b = true then 10 else 0)]) ∧ w = w' := by
  by_cases h : a + b < 18446744073709551616
  · have e1 : ltr a b = a + b := if_pos h
    have e2 : nvr a b = false := decide_eq_false (by omega)
    rw [e1, e2]
    have h1 : (a + b) % 18446744073709551616 = a + b := by omega
    have h2 : (a + b) / 18446744073709551616 = 0 := by omega
    have hadd := fun w => add64 a b ha hb w
    simp only [h1, h2] at hadd
    go_enter Try.func43, Try.ntmps43
    go_wp2
    go_ret2
    exact ⟨rfl, rfl⟩
  · have e1 : ltr a b = 0 := if_neg h
    have e2 : nvr a b = true := decide_eq_true (by omega)
    rw [e1, e2]
    have h2 : (a + b) / 18446744073709551616 = 1 := by omega
    have hadd := fun w => add64 a b ha hb w
    simp only [h2] at hadd
    generalize (a + b) % 18446744073709551616 = z at hadd
    go_enter Try.func43, Try.ntmps43
    go_wp2
    go_ret2
    exact ⟨rfl, rfl⟩
end Go.Proofs.Ytceopcfmhidjlaa.PTimerPlays
set_option linter.unusedVariables false
set_option linter.unusedSimpArgs false
namespace Go.Proofs.Ytceopcfmhidjlaa.PTimerPlays
open Go.RowKit Go.Proofs.Ytceopcfmhidjlaa.Ef Go.Proofs.Ytceopcfmhidjlaa.Mp Go.Proofs.Ytceopcfmhidjlaa.Hp Go.Proofs.YtceopcfmhidjlaaW.PrintWords Go.Proofs.YtceopcfmhidjlaaW.PrintLast Go.Proofs.YtceopcfmhidjlaaW.PrintMore
/-- At p lie timers that hold this, their blocks ok ones. -/
def TP (w : World) (base p : Nat) (ok : Nat → Prop) (S : TS) : Prop := ∃ P v ids own gs, Pl.p P = p ∧ P.ok = ok ∧ TA w base P v S.last S.hp S.next S.nv ids own gs ∧ Good S ids own gs
section
variable {w w' : World} {base p : Nat} {ok : Nat → Prop} {S : TS}
theorem TP.kept {X : Nat → Prop} (h : TP w base p ok S) (hk : Kept w w' X) (hS : ∀ k, ok k → ¬ X k) : TP w' base p ok S := by
  obtain ⟨P, v, ids, own, gs, h1, rfl, h3, h4⟩ := h
  exact ⟨P, v, ids, own, gs, h1, rfl, h3.kept hk hS, h4⟩
theorem TP.below (h : TP w base p ok S) (hb : Below w.heap.size w w') : TP w' base p ok S := h.kept (Kept.of_below hb (fun _ => False)) (fun _ _ => id)
theorem TP.drew (h : TP w base p ok S) : TP w.drew base p ok S := h.below (below_drew (Below.refl _ _))
theorem TP.drewN (h : TP w base p ok S) (n : Nat) : TP (w.drewN n) base p ok S := h.below (pw_below_drewN (Below.refl _ _) n)
theorem TP.bound (h : TP w base p ok S) : ∀ k, ok k → base ≤ k ∧ k < w.heap.size := by
  obtain ⟨P, v, ids, own, gs, h1, rfl, h3, h4⟩ := h
  exact fun k hk => ⟨h3.fine.low k hk, h3.fine.bound k hk⟩
theorem TP.le (h : TP w base p ok S) : base ≤ w.heap.size := by
  obtain ⟨P, v, ids, own, gs, h1, rfl, h3, h4⟩ := h
  exact h3.le
theorem TP.new (h : TP w base p ok S) {k : Nat} (hk : w.heap.size ≤ k) : ¬ ok k := fun q => by have := (h.bound k q).2; omega
theorem TP.fr (h : TP w base p ok S) : Fr base ok w w := Fr.refl h.le (fun k q => (h.bound k q).1)
theorem TP.grown (h : TP w base p ok S) {g : Nat} (hg : w.grownBy w' (some g)) (hne : ¬ ok g) : TP w' base p ok S := h.kept (grown_kept hg) (fun k hk e => hne (by rw [← e]; exact hk))
theorem TP.lower {base' : Nat} (h : TP w base p ok S) (hb : base' ≤ base) : TP w base' p ok S := by
  obtain ⟨P, v, ids, own, gs, h1, rfl, h3, h4⟩ := h
  exact ⟨P, v, ids, own, gs, h1, rfl, ⟨{ h3.fine with low := fun k q => Nat.le_trans hb (h3.fine.low k q) }, h3.blk, h3.heap.lower hb, Kd.R_lower h3.row hb, h3.mi, h3.mo, h3.mg⟩, h4⟩
theorem TP.blk (h : TP w base p ok S) : ∃ q v bi bo bg, w.heap[p]? = some (.cells (cS S.last q v bi bo bg) 58 (0, 0)) := by
  obtain ⟨P, v, ids, own, gs, rfl, _, h3, _⟩ := h
  exact ⟨_, _, _, _, _, h3.blk⟩
theorem Pl.okH_ok {P : Pl} {H' : Nat → Prop} {n k : Nat} (hn : ∀ k, H' k → P.H k ∨ n ≤ k) (h : Pl.ok { P with H := H' } k) : P.ok k ∨ n ≤ k := by
  rcases h with q | q | q | q | q | q
  · exact .inl (.inl q)
  · exact .inl (.inr (.inl q))
  · exact .inl (.inr (.inr (.inl q)))
  · exact .inl (.inr (.inr (.inr (.inl q))))
  · exact (hn k q).imp (fun r => .inr (.inr (.inr (.inr (.inl r))))) id
  · exact .inl (.inr (.inr (.inr (.inr (.inr q)))))
theorem Pl.okN_ok {P : Pl} {N' : Nat → Prop} {n k : Nat} (hn : ∀ k, N' k → P.N k ∨ n ≤ k) (h : Pl.ok { P with N := N' } k) : P.ok k ∨ n ≤ k := by
  rcases h with q | q | q | q | q | q
  · exact .inl (.inl q)
  · exact .inl (.inr (.inl q))
  · exact .inl (.inr (.inr (.inl q)))
  · exact .inl (.inr (.inr (.inr (.inl q))))
  · exact .inl (.inr (.inr (.inr (.inr (.inl q)))))
  · exact (hn k q).imp (fun r => .inr (.inr (.inr (.inr (.inr r))))) id
end
theorem arm_calls (base p : Nat) (ok : Nat → Prop) (S : TS) (x : Tm) (w : World) (H : TP w base p ok S) (F : Fresh S x) (hn1 : S.next ≤ 1000000000000000000) :
    Calls Try.prog 33 #[.pointer (some ⟨p, 0, none⟩), .agg (cT x)] w fun e w' => ∃ ok', e = .returned (.tuple #[]) ∧ TP w' base p ok' (S.arm x) ∧ (∀ k, ok' k → ok k ∨ w.heap.size ≤ k) ∧ Fr base ok w w' := by
  obtain ⟨P, v, ids, own, gs, rfl, rfl, hA, hG⟩ := H
  have hG2 := hG.arm F
  have hlen : S.hp.length + S.nv.length < 1024 := by have := F.n; simp [TS.all] at this; exact this
  obtain ⟨xi, xk, ⟨xs, xg⟩, xc, xt, xn, xp⟩ := x
  cases xn with
  | false =>
    refine (arm_due base P v S.last S.hp S.next S.nv ids own gs xi xk xs xg xc xt xp w hA (fun n hn => by have := hG.num n hn; omega) (by omega) hG.n0 hn1).mono ?_
    rintro e w' ⟨H', he, hT, hn, hF⟩
    exact ⟨Pl.ok { P with H := H' }, he, ⟨{ P with H := H' }, v, _, _, _, rfl, rfl, hT, hG2⟩, fun k q => Pl.okH_ok hn q, hF⟩
  | true =>
    refine (arm_never base P v S.last S.hp S.next S.nv ids own gs xi xk xs xg xc xt xp w hA (by omega)).mono ?_
    rintro e w' ⟨N', v', he, hT, hn, hF⟩
    exact ⟨Pl.ok { P with N := N' }, he, ⟨{ P with N := N' }, v', _, _, _, rfl, rfl, hT, hG2⟩, fun k q => Pl.okN_ok hn q, hF⟩
set_option maxHeartbeats 1000000 in
theorem is_calls (base p : Nat) (ok : Nat → Prop) (S : TS) (w : World) (H : TP w base p ok S) :
    Calls Try.prog 26 #[.pointer (some ⟨p, 0, none⟩)] w fun e w' => e = .returned (.bool true) ∧ w = w' := by
  obtain ⟨q, v, bi, bo, bg, hb⟩ := H.blk
  have hp0 : w.cell? ⟨p, 0, none⟩ = some (.bool true) := (blk_cell hb 0).trans rfl
  clear H hb
  go_enter Try.func26, Try.ntmps26
  go_wp2
  go_ret
  exact ⟨rfl, rfl⟩
def TS.nil : TS := ⟨0, [], 0, []⟩
theorem good_nil : Good TS.nil [] [] [] := ⟨.refl _, .refl _, .refl _, List.nodup_nil, List.nodup_nil, fun _ h => (by cases h), fun _ h => (by cases h), fun _ h => (by cases h), fun _ h => (by cases h), Int.le_refl _, Int.le_refl _, by decide⟩
set_option maxHeartbeats 1000000 in
set_option maxRecDepth 100000 in
theorem new_tp (w : World) : Calls Try.prog 10 #[] w fun e w' => ∃ p ok', e = .returned (.pointer (some ⟨p, 0, none⟩)) ∧ TP w' w.heap.size p ok' TS.nil ∧ Below w.heap.size w w' := by
  have hmm := @run_makeMap Try.prog
  have hu1 := Try.underlying54
  have hu2 := Try.underlying55
  have hu3 := Try.underlying56
  have hu4 := Try.underlying58
  go_enter Try.func10, Try.ntmps10
  go_wp2_with (go_at_call 25; (refine (HP.new _).mono ?_); rintro e w1 ⟨q, rfl, hh, hb⟩; have HH := Aside0.mk hh; have HB := Aside0.mk hb; clear hh hb)
  have hmo : Obj.map #[] 0 = Obj.map #[] 0 := rfl
  have e1 : (w1.alloc (.map #[] 0)).heap.size = w1.heap.size + 1 := Array.size_push _
  have e2 : ((w1.alloc (.map #[] 0)).alloc (.map #[] 0)).heap.size = w1.heap.size + 1 + 1 := by rw [← e1]; exact Array.size_push _
  have e3 : (((w1.alloc (.map #[] 0)).alloc (.map #[] 0)).alloc (.map #[] 0)).heap.size = w1.heap.size + 1 + 1 + 1 := by rw [← e2]; exact Array.size_push _
  have hm1 := MapS.new (enc := Value.int .i64) w1
  have hm2 := MapS.new (enc := Value.int .i64) (w1.alloc (.map #[] 0))
  have hm3 := MapOf.new (enc := enc2) ((w1.alloc (.map #[] 0)).alloc (.map #[] 0))
  rw [e1] at hm2
  rw [e2] at hm3
  have b1 := below_alloc (Below.refl w1.heap.size w1) (.map #[] 0)
  have b2 := below_alloc (Below.refl (w1.alloc (.map #[] 0)).heap.size (w1.alloc (.map #[] 0))) (.map #[] 0)
  have b3 := below_alloc (Below.refl ((w1.alloc (.map #[] 0)).alloc (.map #[] 0)).heap.size ((w1.alloc (.map #[] 0)).alloc (.map #[] 0))) (.map #[] 0)
  generalize hW1 : w1.alloc (.map #[] 0) = W1 at *
  generalize hW2 : W1.alloc (.map #[] 0) = W2 at *
  generalize hW3 : W2.alloc (.map #[] 0) = W3 at *
  have b4 := below_alloc (Below.refl W3.heap.size W3) (.cells (cS 0 q (.slice none 0 0) w1.heap.size (w1.heap.size + 1) (w1.heap.size + 1 + 1)) 58 (0, 0))
  have e4 : (W3.alloc (.cells (cS 0 q (.slice none 0 0) w1.heap.size (w1.heap.size + 1) (w1.heap.size + 1 + 1)) 58 (0, 0))).heap.size = w1.heap.size + 1 + 1 + 1 + 1 := by rw [← e3]; exact Array.size_push _
  have hbk := blk_new W3 (.cells (cS 0 q (.slice none 0 0) w1.heap.size (w1.heap.size + 1) (w1.heap.size + 1 + 1)) 58 (0, 0))
  rw [e3] at hbk
  have hh := ((HH.out.below b1).below b2).below b3
  have hle := HB.out.size
  go_ret
  refine ⟨w1.heap.size + 1 + 1 + 1, _, rfl, ⟨⟨w1.heap.size + 1 + 1 + 1, q, w1.heap.size, w1.heap.size + 1, w1.heap.size + 1 + 1, fun k => w.heap.size ≤ k ∧ k < w1.heap.size, fun _ => False⟩, .slice none 0 0, [], [], [], rfl, rfl, ?_, good_nil⟩, ?_⟩
  · refine ⟨⟨fun k hk => ?_, fun k hk => ?_, by show w1.heap.size + 1 + 1 + 1 ≠ w1.heap.size; omega, by show w1.heap.size + 1 + 1 + 1 ≠ w1.heap.size + 1; omega, by show w1.heap.size + 1 + 1 + 1 ≠ w1.heap.size + 1 + 1; omega, by show w1.heap.size ≠ w1.heap.size + 1; omega, by show w1.heap.size ≠ w1.heap.size + 1 + 1; omega, by show w1.heap.size + 1 ≠ w1.heap.size + 1 + 1; omega, fun k hk => ?_, fun k hk => hk.elim⟩, hbk, hh.below b4, Kd.R_nil _ _ _ _ _, ((hm1.below b2).below b3).below b4, (hm2.below b3).below b4, hm3.below b4⟩
    · rcases hk with q | q | q | q | q | q <;> simp only at q <;> omega
    · rw [e4]
      rcases hk with q | q | q | q | q | q <;> simp only at q <;> omega
    · obtain ⟨h1, h2⟩ := hk
      have h3 : k < w1.heap.size := h2
      exact ⟨by show k ≠ w1.heap.size + 1 + 1 + 1; omega, by show k ≠ w1.heap.size; omega, by show k ≠ w1.heap.size + 1; omega, by show k ≠ w1.heap.size + 1 + 1; omega, id⟩
  · exact (((HB.out.trans (below_up b1 hle)).trans (below_up b2 (Nat.le_trans hle b1.size))).trans (below_up b3 (Nat.le_trans (Nat.le_trans hle b1.size) b2.size))).trans (below_up b4 (Nat.le_trans (Nat.le_trans (Nat.le_trans hle b1.size) b2.size) b3.size))
end Go.Proofs.Ytceopcfmhidjlaa.PTimerPlays
set_option linter.unusedVariables false
set_option linter.unusedSimpArgs false
namespace Go.Proofs.Ytceopcfmhidjlaa.PTimerPlays
open Go.RowKit Go.Proofs.Ytceopcfmhidjlaa.Ef Go.Proofs.Ytceopcfmhidjlaa.Mp Go.Proofs.Ytceopcfmhidjlaa.Hp Go.Proofs.YtceopcfmhidjlaaW.PrintWords Go.Proofs.YtceopcfmhidjlaaW.PrintLast Go.Proofs.YtceopcfmhidjlaaW.PrintMore
def TS.begin (S : TS) (x : Tm) (now ticks : Int) : TS := ({ S with last := S.last + 1 } : TS).arm { x with f0 := S.last + 1, f4 := ltr now ticks, f5 := nvr now ticks }
theorem Good.up {S : TS} {ids own : List (Int × Value)} {gs : List ((Int × Int) × Value)} (G : Good S ids own gs) : Good { S with last := S.last + 1 } ids own gs :=
  { G with idl := fun x hx => by have := G.idl x hx; show x.f0 ≤ S.last + 1; omega, l0 := by have := G.l0; show 0 ≤ S.last + 1; omega }
theorem run_lenM {P : Program} {K E T : TypeId} {κ : Type} {enc : κ → Value} (hT : P.underlying T = some (.map K E)) {w : World} {b : Nat} {l : List (κ × Value)} (hM : MapOf enc w b l) (X : TypeId) :
    (Builtin.len_ #[T] X #[.map (some b)]).run P w = .ok (.int .i64 (l.length : Int)) w := by
  obtain ⟨es, cl, hb, he⟩ := hM.size_
  unfold Builtin.len_
  have hg : (getObj b).run P w = .ok (.map es cl) w := by simp [getObj, Sem.run, hb]
  simp only [List.getElem?_toArray, List.getElem?_cons_zero, Sem.run_bind, run_underlying hT, Result.andThen_ok, hg, Sem.run_pure, he]
  rfl
set_option maxHeartbeats 1000000 in
set_option maxRecDepth 100000 in
theorem begin_full (base p : Nat) (ok : Nat → Prop) (S : TS) (xk xs xg xc xp now ticks : Int) (w : World) (H : TP w base p ok S) (hf : 1024 ≤ S.all.length ∨ S.last = 9223372036854775807) :
    Calls Try.prog 27 #[.pointer (some ⟨p, 0, none⟩), .agg #[.int .i64 0, .int .i64 xk, .int .i64 xs, .int .i64 xg, .int .i64 xc, .int .u64 0, .bool false, .int .u64 xp], .int .u64 now, .int .u64 ticks] w fun e w' => e = .returned (.tuple #[.int .i64 0, .int .i64 2]) ∧ Below w.heap.size w w' := by
  obtain ⟨P, v, ids, own, gs, rfl, rfl, hA, hG⟩ := H
  have hl : (ids.length : Int) = S.all.length := by rw [ids_len hG]
  have HH := Aside0.mk hA
  have HB := Aside0.mk (Below.refl w.heap.size w)
  clear hA
  by_cases h1 : 1024 ≤ S.all.length
  · have h2 : ((1024 : Int) ≤ (S.all.length : Int)) := by omega
    go_enter Try.func27, Try.ntmps27
    go_wp2_with ((with_reducible refine gate_dst (N := 5) rfl ?_); refine box_event ?hg (N := 5) ?hd (cs := #[.int .i64 0, .int .i64 xk, .int .i64 xs, .int .i64 xg, .int .i64 xc, .int .u64 0, .bool false, .int .u64 xp]) (t := 40) ?hr ?_; (case hd => rfl); (case hg => rfl); (case hr => first | (go_simp; done) | (go_simp; rfl)); intro g5 hg5 w1 hbox hb; have HB1 := Aside0.mk hb; have hlen : (Builtin.len_ #[54] 3 #[.map (some P.bi)]).run Try.prog w1 = .ok (.int .i64 (S.all.length : Int)) w1 := by { have h := run_lenM Try.underlying54 (HH.out.below hb).mi.of 3; rw [h, hl] }; have pi : w1.cell? ⟨P.p, 4, none⟩ = some (.map (some P.bi)) := (blk_cell (HH.out.below hb).blk 4).trans rfl; have pl : w1.cell? ⟨P.p, 1, none⟩ = some (.int .i64 S.last) := (blk_cell (HH.out.below hb).blk 1).trans rfl; clear hb hbox hg5)
    go_ret2
    exact ⟨rfl, HB1.out⟩
  · have h2 : ¬ ((1024 : Int) ≤ (S.all.length : Int)) := by omega
    have h3 : S.last = 9223372036854775807 := hf.resolve_left h1
    have h4 : (S.last == 9223372036854775807) = true := by rw [h3]; rfl
    go_enter Try.func27, Try.ntmps27
    go_wp2_with ((with_reducible refine gate_dst (N := 5) rfl ?_); refine box_event ?hg (N := 5) ?hd (cs := #[.int .i64 0, .int .i64 xk, .int .i64 xs, .int .i64 xg, .int .i64 xc, .int .u64 0, .bool false, .int .u64 xp]) (t := 40) ?hr ?_; (case hd => rfl); (case hg => rfl); (case hr => first | (go_simp; done) | (go_simp; rfl)); intro g5 hg5 w1 hbox hb; have HB1 := Aside0.mk hb; have hlen : (Builtin.len_ #[54] 3 #[.map (some P.bi)]).run Try.prog w1 = .ok (.int .i64 (S.all.length : Int)) w1 := by { have h := run_lenM Try.underlying54 (HH.out.below hb).mi.of 3; rw [h, hl] }; have pi : w1.cell? ⟨P.p, 4, none⟩ = some (.map (some P.bi)) := (blk_cell (HH.out.below hb).blk 4).trans rfl; have pl : w1.cell? ⟨P.p, 1, none⟩ = some (.int .i64 S.last) := (blk_cell (HH.out.below hb).blk 1).trans rfl; clear hb hbox hg5)
    go_ret2
    exact ⟨rfl, HB1.out⟩
set_option maxHeartbeats 4000000 in
set_option maxRecDepth 100000 in
theorem begin_ok (base p : Nat) (ok : Nat → Prop) (S : TS) (xk xs xg xc xp now ticks : Int) (w : World) (H : TP w base p ok S) (hlen' : S.all.length < 1024) (hlast : S.last < 9223372036854775807) (hn1 : S.next ≤ 1000000000000000000) (hg : xk = 1 → ∀ y ∈ S.sl, gk y ≠ (xs, xg))
    (ha : 0 ≤ now) (ha1 : now < 18446744073709551616) (hb : 0 ≤ ticks) (hb1 : ticks < 18446744073709551616) :
    Calls Try.prog 27 #[.pointer (some ⟨p, 0, none⟩), .agg #[.int .i64 0, .int .i64 xk, .int .i64 xs, .int .i64 xg, .int .i64 xc, .int .u64 0, .bool false, .int .u64 xp], .int .u64 now, .int .u64 ticks] w fun e w' => ∃ ok', e = .returned (.tuple #[.int .i64 (S.last + 1), .int .i64 0]) ∧ TP w' base p ok' (S.begin ⟨0, xk, ⟨xs, xg⟩, xc, 0, false, xp⟩ now ticks) ∧ (∀ k, ok' k → ok k ∨ w.heap.size ≤ k) ∧ Fr base ok w w' := by
  obtain ⟨P, v, ids, own, gs, rfl, rfl, hA, hG⟩ := H
  have hl : (ids.length : Int) = S.all.length := by rw [ids_len hG]
  have h2 : ¬ ((1024 : Int) ≤ (S.all.length : Int)) := by omega
  have h4 : (S.last == 9223372036854775807) = false := by simp; omega
  have h5 := hG.l0
  have h6 : IntKind.i64.wrap (S.last + 1) = S.last + 1 := by simp [IntKind.wrap, IntKind.bits, IntKind.signed]; omega
  have HX : Aside0 (Fresh { S with last := S.last + 1 } ⟨S.last + 1, xk, ⟨xs, xg⟩, xc, ltr now ticks, nvr now ticks, xp⟩) := ⟨⟨fun y hy e => by have := hG.idl y hy; simp only at e; omega, hg, Int.le_refl _, hlen'⟩⟩
  have HG := Aside0.mk hG.up
  have HH := Aside0.mk hA
  have HF := Aside0.mk (Fr.refl hA.le hA.fine.low)
  clear hA hG hg
  have HT := Aside0.mk (tick_add now ticks ha ha1 hb hb1)
  have infoL : (Try.prog.info? 2).map (·.size) = some 1 := by kernel_rfl
  have infoU : (Try.prog.info? 22).map (·.size) = some 1 := by kernel_rfl
  have infoB : (Try.prog.info? 4).map (·.size) = some 1 := by kernel_rfl
  clear ha ha1 hb hb1
  unfold TS.begin
  cases hnv : nvr now ticks with
  | false =>
    simp only [hnv, if_true, if_false, Bool.false_eq_true] at HT HX
    go_enter Try.func27, Try.ntmps27
    go_wp2_with (first
      | (with_reducible refine gate_dst (N := 5) rfl ?_); refine box_event ?hg (N := 5) ?hd (cs := #[.int .i64 0, .int .i64 xk, .int .i64 xs, .int .i64 xg, .int .i64 xc, .int .u64 0, .bool false, .int .u64 xp]) (t := 40) ?hr ?_; (case hd => rfl); (case hg => rfl); (case hr => first | (go_simp; done) | (go_simp; rfl)); intro g5 hg5 w1 hbox hb; have HB1 := Aside0.mk hb; have hlen : (Builtin.len_ #[54] 3 #[.map (some P.bi)]).run Try.prog w1 = .ok (.int .i64 (S.all.length : Int)) w1 := by { have h := run_lenM Try.underlying54 (HH.out.below hb).mi.of 3; rw [h, hl] }; have pi : w1.cell? ⟨P.p, 4, none⟩ = some (.map (some P.bi)) := (blk_cell (HH.out.below hb).blk 4).trans rfl; have pl : w1.cell? ⟨P.p, 1, none⟩ = some (.int .i64 S.last) := (blk_cell (HH.out.below hb).blk 1).trans rfl; have pf := blk_frozen (HH.out.below hb).blk 1; have HA1 := Aside0.mk (HH.out.below hb); have HF1 := Aside0.mk (HF.out.below hb); have B5 := Aside0.mk hbox; have HG5 := Aside0.mk (show w.heap.size ≤ g5 by omega); have HNo := Aside0.mk (HH.out.new HG5.out); clear hb hbox hg5
      | ((with_reducible refine gate_store (t := 2) (p := 31) (v := .tmp 29) rfl ?_); refine step_store rfl rfl rfl HA1.out.blk rfl (u := .int .i64 (S.last + 1)) (seg := [.int .i64 (S.last + 1)]) rfl rfl infoL (by simp [Value.oneCell']) (by show 1 + 1 ≤ 7; omega) (cur' := cS (S.last + 1) P.q v P.bi P.bo P.bg) rfl ?_; intro w2 hbs hgs hss; have HA2 := Aside0.mk (HA1.out.celled hbs hgs); have HF2 := Aside0.mk (HF1.out.grown hgs (.inl (.inl rfl))); have B52 := Aside0.mk (blk_grown B5.out hgs (fun e => HNo.out (.inl (Option.some.inj e)))); clear hbs hgs hss hlen pi pl pf HA1 HF1 B5; have pl : w2.cell? ⟨P.p, 1, none⟩ = some (.int .i64 (S.last + 1)) := (blk_cell HA2.out.blk 1).trans rfl)
      | ((with_reducible refine gate_store (t := 2) (p := 36) (v := .tmp 35) rfl ?_); refine step_store rfl rfl rfl B52.out rfl (u := .int .i64 (S.last + 1)) (seg := [.int .i64 (S.last + 1)]) rfl rfl infoL (by simp [Value.oneCell']) (by show 0 + 1 ≤ 8; omega) (cur' := #[.int .i64 (S.last + 1), .int .i64 xk, .int .i64 xs, .int .i64 xg, .int .i64 xc, .int .u64 0, .bool false, .int .u64 xp]) rfl ?_; intro w3 hbs hgs hss; have HA3 := Aside0.mk (HA2.out.grown hgs HNo.out); have HF3 := Aside0.mk (HF2.out.grown hgs (.inr HG5.out)); have B53 := Aside0.mk hbs; clear hbs hgs hss pl HA2 HF2 B52)
      | (go_at_call 43; (refine (HT.out _).mono ?_); rintro e w4' ⟨rfl, rfl⟩)
      | ((with_reducible refine gate_store (t := 22) (p := 46) (v := .tmp 43) rfl ?_); refine step_store rfl rfl rfl B53.out rfl (u := .int .u64 (ltr now ticks)) (seg := [.int .u64 (ltr now ticks)]) rfl rfl infoU (by simp [Value.oneCell']) (by show 5 + 1 ≤ 8; omega) (cur' := #[.int .i64 (S.last + 1), .int .i64 xk, .int .i64 xs, .int .i64 xg, .int .i64 xc, .int .u64 (ltr now ticks), .bool false, .int .u64 xp]) rfl ?_; intro w4 hbs hgs hss; have HA4 := Aside0.mk (HA3.out.grown hgs HNo.out); have HF4 := Aside0.mk (HF3.out.grown hgs (.inr HG5.out)); have B54 := Aside0.mk hbs; clear hbs hgs hss HA3 HF3 B53)
      | ((with_reducible refine gate_store (t := 4) (p := 47) (v := .tmp 45) rfl ?_); refine step_store rfl rfl rfl B54.out rfl (u := .bool false) (seg := [.bool false]) rfl rfl infoB (by simp [Value.oneCell']) (by show 6 + 1 ≤ 8; omega) (cur' := #[.int .i64 (S.last + 1), .int .i64 xk, .int .i64 xs, .int .i64 xg, .int .i64 xc, .int .u64 (ltr now ticks), .bool false, .int .u64 xp]) rfl ?_; intro w5 hbs hgs hss; have HA5 := Aside0.mk (HA4.out.grown hgs HNo.out); have HF5 := Aside0.mk (HF4.out.grown hgs (.inr HG5.out)); have B55 := Aside0.mk hbs; clear hbs hgs hss HA4 HF4 B54; have x0 : w5.cell? ⟨g5, 0, none⟩ = some (.int .i64 (S.last + 1)) := (blk_cell B55.out 0).trans rfl; have x1 : w5.cell? ⟨g5, 1, none⟩ = some (.int .i64 xk) := (blk_cell B55.out 1).trans rfl; have x2 : w5.cell? ⟨g5, 2, none⟩ = some (.int .i64 xs) := (blk_cell B55.out 2).trans rfl; have x3 : w5.cell? ⟨g5, 3, none⟩ = some (.int .i64 xg) := (blk_cell B55.out 3).trans rfl; have x4 : w5.cell? ⟨g5, 4, none⟩ = some (.int .i64 xc) := (blk_cell B55.out 4).trans rfl; have x5 : w5.cell? ⟨g5, 5, none⟩ = some (.int .u64 (ltr now ticks)) := (blk_cell B55.out 5).trans rfl; have x6 : w5.cell? ⟨g5, 6, none⟩ = some (.bool false) := (blk_cell B55.out 6).trans rfl; have x7 : w5.cell? ⟨g5, 7, none⟩ = some (.int .u64 xp) := (blk_cell B55.out 7).trans rfl)
      | (go_at_call 33; (refine (arm_calls base P.p P.ok { S with last := S.last + 1 } ⟨S.last + 1, xk, ⟨xs, xg⟩, xc, ltr now ticks, false, xp⟩ _ ⟨P, v, ids, own, gs, rfl, rfl, HA5.out, HG.out⟩ HX.out hn1).mono ?_); rintro e w6 ⟨ok', rfl, hT, hn, hF⟩; have HT6 := Aside0.mk hT; have HF6 := Aside0.mk (HF5.out.then_ hF (Nat.le_refl _) (fun k q => .inl q)); have HN6 := Aside0.mk (show ∀ k, ok' k → P.ok k ∨ w.heap.size ≤ k from fun k q => (hn k q).imp id (Nat.le_trans HF5.out.size)); have x0' : w6.cell? ⟨g5, 0, none⟩ = some (.int .i64 (S.last + 1)) := (blk_cell (hF.blk B55.out HNo.out) 0).trans rfl; clear hT hn hF x0 x1 x2 x3 x4 x5 x6 x7 HA5 HF5 B55))
    go_ret2
    exact ⟨ok', rfl, HT6.out, HN6.out, HF6.out⟩
  | true =>
    simp only [hnv, if_true, if_false, Bool.false_eq_true] at HT HX
    go_enter Try.func27, Try.ntmps27
    go_wp2_with (first
      | (with_reducible refine gate_dst (N := 5) rfl ?_); refine box_event ?hg (N := 5) ?hd (cs := #[.int .i64 0, .int .i64 xk, .int .i64 xs, .int .i64 xg, .int .i64 xc, .int .u64 0, .bool false, .int .u64 xp]) (t := 40) ?hr ?_; (case hd => rfl); (case hg => rfl); (case hr => first | (go_simp; done) | (go_simp; rfl)); intro g5 hg5 w1 hbox hb; have HB1 := Aside0.mk hb; have hlen : (Builtin.len_ #[54] 3 #[.map (some P.bi)]).run Try.prog w1 = .ok (.int .i64 (S.all.length : Int)) w1 := by { have h := run_lenM Try.underlying54 (HH.out.below hb).mi.of 3; rw [h, hl] }; have pi : w1.cell? ⟨P.p, 4, none⟩ = some (.map (some P.bi)) := (blk_cell (HH.out.below hb).blk 4).trans rfl; have pl : w1.cell? ⟨P.p, 1, none⟩ = some (.int .i64 S.last) := (blk_cell (HH.out.below hb).blk 1).trans rfl; have pf := blk_frozen (HH.out.below hb).blk 1; have HA1 := Aside0.mk (HH.out.below hb); have HF1 := Aside0.mk (HF.out.below hb); have B5 := Aside0.mk hbox; have HG5 := Aside0.mk (show w.heap.size ≤ g5 by omega); have HNo := Aside0.mk (HH.out.new HG5.out); clear hb hbox hg5
      | ((with_reducible refine gate_store (t := 2) (p := 31) (v := .tmp 29) rfl ?_); refine step_store rfl rfl rfl HA1.out.blk rfl (u := .int .i64 (S.last + 1)) (seg := [.int .i64 (S.last + 1)]) rfl rfl infoL (by simp [Value.oneCell']) (by show 1 + 1 ≤ 7; omega) (cur' := cS (S.last + 1) P.q v P.bi P.bo P.bg) rfl ?_; intro w2 hbs hgs hss; have HA2 := Aside0.mk (HA1.out.celled hbs hgs); have HF2 := Aside0.mk (HF1.out.grown hgs (.inl (.inl rfl))); have B52 := Aside0.mk (blk_grown B5.out hgs (fun e => HNo.out (.inl (Option.some.inj e)))); clear hbs hgs hss hlen pi pl pf HA1 HF1 B5; have pl : w2.cell? ⟨P.p, 1, none⟩ = some (.int .i64 (S.last + 1)) := (blk_cell HA2.out.blk 1).trans rfl)
      | ((with_reducible refine gate_store (t := 2) (p := 36) (v := .tmp 35) rfl ?_); refine step_store rfl rfl rfl B52.out rfl (u := .int .i64 (S.last + 1)) (seg := [.int .i64 (S.last + 1)]) rfl rfl infoL (by simp [Value.oneCell']) (by show 0 + 1 ≤ 8; omega) (cur' := #[.int .i64 (S.last + 1), .int .i64 xk, .int .i64 xs, .int .i64 xg, .int .i64 xc, .int .u64 0, .bool false, .int .u64 xp]) rfl ?_; intro w3 hbs hgs hss; have HA3 := Aside0.mk (HA2.out.grown hgs HNo.out); have HF3 := Aside0.mk (HF2.out.grown hgs (.inr HG5.out)); have B53 := Aside0.mk hbs; clear hbs hgs hss pl HA2 HF2 B52)
      | (go_at_call 43; (refine (HT.out _).mono ?_); rintro e w4' ⟨rfl, rfl⟩)
      | ((with_reducible refine gate_store (t := 22) (p := 46) (v := .tmp 43) rfl ?_); refine step_store rfl rfl rfl B53.out rfl (u := .int .u64 (ltr now ticks)) (seg := [.int .u64 (ltr now ticks)]) rfl rfl infoU (by simp [Value.oneCell']) (by show 5 + 1 ≤ 8; omega) (cur' := #[.int .i64 (S.last + 1), .int .i64 xk, .int .i64 xs, .int .i64 xg, .int .i64 xc, .int .u64 (ltr now ticks), .bool false, .int .u64 xp]) rfl ?_; intro w4 hbs hgs hss; have HA4 := Aside0.mk (HA3.out.grown hgs HNo.out); have HF4 := Aside0.mk (HF3.out.grown hgs (.inr HG5.out)); have B54 := Aside0.mk hbs; clear hbs hgs hss HA3 HF3 B53)
      | ((with_reducible refine gate_store (t := 4) (p := 47) (v := .tmp 45) rfl ?_); refine step_store rfl rfl rfl B54.out rfl (u := .bool true) (seg := [.bool true]) rfl rfl infoB (by simp [Value.oneCell']) (by show 6 + 1 ≤ 8; omega) (cur' := #[.int .i64 (S.last + 1), .int .i64 xk, .int .i64 xs, .int .i64 xg, .int .i64 xc, .int .u64 (ltr now ticks), .bool true, .int .u64 xp]) rfl ?_; intro w5 hbs hgs hss; have HA5 := Aside0.mk (HA4.out.grown hgs HNo.out); have HF5 := Aside0.mk (HF4.out.grown hgs (.inr HG5.out)); have B55 := Aside0.mk hbs; clear hbs hgs hss HA4 HF4 B54; have x0 : w5.cell? ⟨g5, 0, none⟩ = some (.int .i64 (S.last + 1)) := (blk_cell B55.out 0).trans rfl; have x1 : w5.cell? ⟨g5, 1, none⟩ = some (.int .i64 xk) := (blk_cell B55.out 1).trans rfl; have x2 : w5.cell? ⟨g5, 2, none⟩ = some (.int .i64 xs) := (blk_cell B55.out 2).trans rfl; have x3 : w5.cell? ⟨g5, 3, none⟩ = some (.int .i64 xg) := (blk_cell B55.out 3).trans rfl; have x4 : w5.cell? ⟨g5, 4, none⟩ = some (.int .i64 xc) := (blk_cell B55.out 4).trans rfl; have x5 : w5.cell? ⟨g5, 5, none⟩ = some (.int .u64 (ltr now ticks)) := (blk_cell B55.out 5).trans rfl; have x6 : w5.cell? ⟨g5, 6, none⟩ = some (.bool true) := (blk_cell B55.out 6).trans rfl; have x7 : w5.cell? ⟨g5, 7, none⟩ = some (.int .u64 xp) := (blk_cell B55.out 7).trans rfl)
      | (go_at_call 33; (refine (arm_calls base P.p P.ok { S with last := S.last + 1 } ⟨S.last + 1, xk, ⟨xs, xg⟩, xc, ltr now ticks, true, xp⟩ _ ⟨P, v, ids, own, gs, rfl, rfl, HA5.out, HG.out⟩ HX.out hn1).mono ?_); rintro e w6 ⟨ok', rfl, hT, hn, hF⟩; have HT6 := Aside0.mk hT; have HF6 := Aside0.mk (HF5.out.then_ hF (Nat.le_refl _) (fun k q => .inl q)); have HN6 := Aside0.mk (show ∀ k, ok' k → P.ok k ∨ w.heap.size ≤ k from fun k q => (hn k q).imp id (Nat.le_trans HF5.out.size)); have x0' : w6.cell? ⟨g5, 0, none⟩ = some (.int .i64 (S.last + 1)) := (blk_cell (hF.blk B55.out HNo.out) 0).trans rfl; clear hT hn hF x0 x1 x2 x3 x4 x5 x6 x7 HA5 HF5 B55))
    go_ret2
    exact ⟨ok', rfl, HT6.out, HN6.out, HF6.out⟩
end Go.Proofs.Ytceopcfmhidjlaa.PTimerPlays
set_option linter.unusedVariables false
set_option linter.unusedSimpArgs false
namespace Go.Proofs.Ytceopcfmhidjlaa.PTimerPlays
open Go.RowKit Go.Proofs.Ytceopcfmhidjlaa.Ef Go.Proofs.Ytceopcfmhidjlaa.Mp Go.Proofs.Ytceopcfmhidjlaa.Hp Go.Proofs.YtceopcfmhidjlaaW.PrintWords Go.Proofs.YtceopcfmhidjlaaW.PrintLast Go.Proofs.YtceopcfmhidjlaaW.PrintMore
/-- Is there no room? -/
def TS.full (S : TS) : Prop := 1024 ≤ S.all.length ∨ S.last = 9223372036854775807
theorem tp_last {w : World} {base p : Nat} {ok : Nat → Prop} {S : TS} (H : TP w base p ok S) (hl : ¬ S.full) (hm : S.last ≤ 9223372036854775807) : S.all.length < 1024 ∧ S.last < 9223372036854775807 := by
  unfold TS.full at hl
  omega
set_option maxHeartbeats 1000000 in
theorem after_full (base p : Nat) (ok : Nat → Prop) (S : TS) (ch now ticks : Int) (w : World) (H : TP w base p ok S) (hf : S.full) :
    Calls Try.prog 11 #[.pointer (some ⟨p, 0, none⟩), .int .i64 ch, .int .u64 now, .int .u64 ticks] w fun e w' => e = .returned (.tuple #[.int .i64 0, .int .i64 2]) ∧ Below w.heap.size w w' := by
  have HH := Aside0.mk H
  have HX := Aside0.mk hf
  clear H hf
  go_enter Try.func11, Try.ntmps11
  go_wp2_with (first
    | (go_at_call 26; (refine (is_calls base p ok S _ HH.out).mono ?_); rintro e w1 ⟨rfl, rfl⟩)
    | (go_at_call 27; (refine (begin_full base p ok S 2 0 0 ch 0 now ticks _ HH.out HX.out).mono ?_); rintro e w1 ⟨rfl, hb⟩; have HB := Aside0.mk hb; clear hb))
  go_ret2
  exact ⟨rfl, HB.out⟩
set_option maxHeartbeats 1000000 in
theorem after_ok (base p : Nat) (ok : Nat → Prop) (S : TS) (ch now ticks : Int) (w : World) (H : TP w base p ok S) (hlen : S.all.length < 1024) (hlast : S.last < 9223372036854775807) (hn1 : S.next ≤ 1000000000000000000)
    (ha : 0 ≤ now) (ha1 : now < 18446744073709551616) (hb : 0 ≤ ticks) (hb1 : ticks < 18446744073709551616) :
    Calls Try.prog 11 #[.pointer (some ⟨p, 0, none⟩), .int .i64 ch, .int .u64 now, .int .u64 ticks] w fun e w' => ∃ ok', e = .returned (.tuple #[.int .i64 (S.last + 1), .int .i64 0]) ∧ TP w' base p ok' (S.begin ⟨0, 2, ⟨0, 0⟩, ch, 0, false, 0⟩ now ticks) ∧ (∀ k, ok' k → ok k ∨ w.heap.size ≤ k) ∧ Fr base ok w w' := by
  have HH := Aside0.mk H
  have HX := Aside0.mk (begin_ok base p ok S 2 0 0 ch 0 now ticks w H hlen hlast hn1 (fun h => absurd h (by decide)) ha ha1 hb hb1)
  clear H
  go_enter Try.func11, Try.ntmps11
  go_wp2_with (first
    | (go_at_call 26; (refine (is_calls base p ok S _ HH.out).mono ?_); rintro e w1 ⟨rfl, rfl⟩)
    | (go_at_call 27; (refine HX.out.mono ?_); rintro e w1 ⟨ok', rfl, h1, h2, h3⟩; have H1 := Aside0.mk h1; have H2 := Aside0.mk h2; have H3 := Aside0.mk h3; clear h1 h2 h3))
  go_ret2
  exact ⟨ok', rfl, H1.out, H2.out, H3.out⟩
set_option maxHeartbeats 1000000 in
theorem every_zero (base p : Nat) (ok : Nat → Prop) (S : TS) (ch now : Int) (w : World) (H : TP w base p ok S) :
    Calls Try.prog 12 #[.pointer (some ⟨p, 0, none⟩), .int .i64 ch, .int .u64 now, .int .u64 0] w fun e w' => e = .returned (.tuple #[.int .i64 0, .int .i64 1]) ∧ w = w' := by
  have HH := Aside0.mk H
  clear H
  go_enter Try.func12, Try.ntmps12
  go_wp2_with (go_at_call 26; (refine (is_calls base p ok S _ HH.out).mono ?_); rintro e w1 ⟨rfl, rfl⟩)
  go_ret2
  exact ⟨rfl, rfl⟩
set_option maxHeartbeats 1000000 in
theorem every_full (base p : Nat) (ok : Nat → Prop) (S : TS) (ch now period : Int) (w : World) (H : TP w base p ok S) (hf : S.full) (hp : period ≠ 0) :
    Calls Try.prog 12 #[.pointer (some ⟨p, 0, none⟩), .int .i64 ch, .int .u64 now, .int .u64 period] w fun e w' => e = .returned (.tuple #[.int .i64 0, .int .i64 2]) ∧ Below w.heap.size w w' := by
  have HH := Aside0.mk H
  have HX := Aside0.mk hf
  have hp' : (period == 0) = false := by simpa using hp
  clear H hf
  go_enter Try.func12, Try.ntmps12
  go_wp2_with (first
    | (go_at_call 26; (refine (is_calls base p ok S _ HH.out).mono ?_); rintro e w1 ⟨rfl, rfl⟩)
    | (go_at_call 27; (refine (begin_full base p ok S 3 0 0 ch period now period _ HH.out HX.out).mono ?_); rintro e w1 ⟨rfl, hb⟩; have HB := Aside0.mk hb; clear hb))
  go_ret2
  exact ⟨rfl, HB.out⟩
set_option maxHeartbeats 1000000 in
theorem every_ok (base p : Nat) (ok : Nat → Prop) (S : TS) (ch now period : Int) (w : World) (H : TP w base p ok S) (hp : period ≠ 0) (hlen : S.all.length < 1024) (hlast : S.last < 9223372036854775807) (hn1 : S.next ≤ 1000000000000000000)
    (ha : 0 ≤ now) (ha1 : now < 18446744073709551616) (hb : 0 ≤ period) (hb1 : period < 18446744073709551616) :
    Calls Try.prog 12 #[.pointer (some ⟨p, 0, none⟩), .int .i64 ch, .int .u64 now, .int .u64 period] w fun e w' => ∃ ok', e = .returned (.tuple #[.int .i64 (S.last + 1), .int .i64 0]) ∧ TP w' base p ok' (S.begin ⟨0, 3, ⟨0, 0⟩, ch, 0, false, period⟩ now period) ∧ (∀ k, ok' k → ok k ∨ w.heap.size ≤ k) ∧ Fr base ok w w' := by
  have HH := Aside0.mk H
  have HX := Aside0.mk (begin_ok base p ok S 3 0 0 ch period now period w H hlen hlast hn1 (fun h => absurd h (by decide)) ha ha1 hb hb1)
  have hp' : (period == 0) = false := by simpa using hp
  clear H
  go_enter Try.func12, Try.ntmps12
  go_wp2_with (first
    | (go_at_call 26; (refine (is_calls base p ok S _ HH.out).mono ?_); rintro e w1 ⟨rfl, rfl⟩)
    | (go_at_call 27; (refine HX.out.mono ?_); rintro e w1 ⟨ok', rfl, h1, h2, h3⟩; have H1 := Aside0.mk h1; have H2 := Aside0.mk h2; have H3 := Aside0.mk h3; clear h1 h2 h3))
  go_ret2
  exact ⟨ok', rfl, H1.out, H2.out, H3.out⟩
/-! ### who sleeps -/
def TS.sleeps (S : TS) (k : Int × Int) : Bool := decide (∃ y ∈ S.sl, gk y = k)
theorem gs_some {S : TS} {ids own : List (Int × Value)} {gs : List ((Int × Int) × Value)} (G : Good S ids own gs) (k : Int × Int) : (Mp.get k gs).isSome = S.sleeps k := by
  unfold TS.sleeps
  by_cases h : ∃ y ∈ S.sl, gk y = k
  · rw [decide_eq_true h]
    obtain ⟨y, hy, rfl⟩ := h
    rw [get_mem (gs_key G) (G.pg.mem_iff.2 (List.mem_map.2 ⟨y, hy, rfl⟩))]
    rfl
  · rw [decide_eq_false h, get_fresh]
    · rfl
    · intro q hq e
      obtain ⟨y, hy, rfl⟩ := List.mem_map.1 (G.pg.mem_iff.1 hq)
      exact h ⟨y, hy, e⟩
set_option maxHeartbeats 1000000 in
set_option maxRecDepth 100000 in
theorem sleeps_calls (base p : Nat) (ok : Nat → Prop) (S : TS) (gs0 gg0 : Int) (w : World) (H : TP w base p ok S) :
    Calls Try.prog 22 #[.pointer (some ⟨p, 0, none⟩), .agg #[.int .i64 gs0, .int .i64 gg0]] w fun e w' => e = .returned (.bool (S.sleeps (gs0, gg0))) ∧ Below w.heap.size w w' := by
  have HT := Aside0.mk H
  obtain ⟨P, v, ids, own, gs, rfl, rfl, hA, hG⟩ := H
  have HS := Aside0.mk (gs_some hG (gs0, gg0))
  have HH := Aside0.mk hA
  clear hA hG
  go_enter Try.func22, Try.ntmps22
  go_wp2_with (first
    | ((with_reducible refine gate_dst (N := 3) rfl ?_); refine box_event ?hg (N := 3) ?hd (cs := #[.int .i64 gs0, .int .i64 gg0]) (t := 30) ?hr ?_; (case hd => rfl); (case hg => rfl); (case hr => first | (go_simp; done) | (go_simp; rfl)); intro g3 hg3 w1 hbox hb; have HB := Aside0.mk hb; have HA1 := Aside0.mk (HH.out.below hb); have HT1 := Aside0.mk (HT.out.below hb); have x0 : w1.cell? ⟨g3, 0, none⟩ = some (.int .i64 gs0) := (blk_cell hbox 0).trans rfl; have x1 : w1.cell? ⟨g3, 1, none⟩ = some (.int .i64 gg0) := (blk_cell hbox 1).trans rfl; have pg : w1.cell? ⟨P.p, 6, none⟩ = some (.map (some P.bg)) := (blk_cell HA1.out.blk 6).trans rfl; clear hb hbox hg3)
    | (go_at_call 26; (refine (is_calls base P.p P.ok S _ HT1.out).mono ?_); rintro e w1' ⟨rfl, rfl⟩))
  go_still_tail 10, (by kernel_rfl)
  refine still_value (W := w1.drew) rfl (exec_look (ok := true) (v := .tuple #[(Mp.get (gs0, gg0) gs).getD (.int .i64 0), .bool (Mp.get (gs0, gg0) gs).isSome]) keyG Try.underlying56 rfl (zeroL _) HA1.out.drew.mg (gs0, gg0) rfl rfl rfl) ?_
  rw [HS.out]
  generalize (Mp.get (gs0, gg0) gs).getD (.int .i64 0) = z0
  repeat still_step
  refine wpStill_nil ?_
  go_wp2
  go_ret
  exact ⟨rfl, below_drew HB.out⟩
end Go.Proofs.Ytceopcfmhidjlaa.PTimerPlays
set_option linter.unusedVariables false
set_option linter.unusedSimpArgs false
namespace Go.Proofs.Ytceopcfmhidjlaa.PTimerPlays
open Go.RowKit Go.Proofs.Ytceopcfmhidjlaa.Ef Go.Proofs.Ytceopcfmhidjlaa.Mp Go.Proofs.Ytceopcfmhidjlaa.Hp Go.Proofs.YtceopcfmhidjlaaW.PrintWords Go.Proofs.YtceopcfmhidjlaaW.PrintLast Go.Proofs.YtceopcfmhidjlaaW.PrintMore
set_option maxHeartbeats 1000000 in
set_option maxRecDepth 100000 in
theorem sleep_sleeps (base p : Nat) (ok : Nat → Prop) (S : TS) (s g now ticks : Int) (w : World) (H : TP w base p ok S) (hs : S.sleeps (s, g) = true) :
    Calls Try.prog 13 #[.pointer (some ⟨p, 0, none⟩), .agg #[.int .i64 s, .int .i64 g], .int .u64 now, .int .u64 ticks] w fun e w' => e = .returned (.int .i64 141) ∧ Below w.heap.size w w' := by
  have HT := Aside0.mk H
  have HC := Aside0.mk (sleeps_calls base p ok S s g)
  rw [hs] at HC
  clear H
  go_enter Try.func13, Try.ntmps13
  go_wp2_with (first
    | ((with_reducible refine gate_dst (N := 5) rfl ?_); refine box_event ?hg (N := 5) ?hd (cs := #[.int .i64 s, .int .i64 g]) (t := 30) ?hr ?_; (case hd => rfl); (case hg => rfl); (case hr => first | (go_simp; done) | (go_simp; rfl)); intro g5 hg5 w1 hbox hb; have HB := Aside0.mk hb; have HT1 := Aside0.mk (HT.out.below hb); have B5 := Aside0.mk hbox; have x0 : w1.cell? ⟨g5, 0, none⟩ = some (.int .i64 s) := (blk_cell hbox 0).trans rfl; have x1 : w1.cell? ⟨g5, 1, none⟩ = some (.int .i64 g) := (blk_cell hbox 1).trans rfl; clear hb hbox hg5)
    | (go_at_call 26; (refine (is_calls base p ok S _ HT1.out).mono ?_); rintro e w1' ⟨rfl, rfl⟩)
    | (go_at_call 22; (refine (HC.out _ HT1.out).mono ?_); rintro e w2 ⟨rfl, hb⟩; have HB2 := Aside0.mk (HB.out.trans (below_up hb HB.out.size)); clear hb x0 x1))
  go_ret
  exact ⟨rfl, HB2.out⟩
set_option maxHeartbeats 1000000 in
set_option maxRecDepth 100000 in
theorem sleep_full (base p : Nat) (ok : Nat → Prop) (S : TS) (s g now ticks : Int) (w : World) (H : TP w base p ok S) (hs : S.sleeps (s, g) = false) (hf : S.full) :
    Calls Try.prog 13 #[.pointer (some ⟨p, 0, none⟩), .agg #[.int .i64 s, .int .i64 g], .int .u64 now, .int .u64 ticks] w fun e w' => e = .returned (.int .i64 2) ∧ Below w.heap.size w w' := by
  have HT := Aside0.mk H
  have HC := Aside0.mk (sleeps_calls base p ok S s g)
  have HX := Aside0.mk hf
  rw [hs] at HC
  clear H hf
  go_enter Try.func13, Try.ntmps13
  go_wp2_with (first
    | ((with_reducible refine gate_dst (N := 5) rfl ?_); refine box_event ?hg (N := 5) ?hd (cs := #[.int .i64 s, .int .i64 g]) (t := 30) ?hr ?_; (case hd => rfl); (case hg => rfl); (case hr => first | (go_simp; done) | (go_simp; rfl)); intro g5 hg5 w1 hbox hb; have HB := Aside0.mk hb; have HT1 := Aside0.mk (HT.out.below hb); have B5 := Aside0.mk hbox; have x0 : w1.cell? ⟨g5, 0, none⟩ = some (.int .i64 s) := (blk_cell hbox 0).trans rfl; have x1 : w1.cell? ⟨g5, 1, none⟩ = some (.int .i64 g) := (blk_cell hbox 1).trans rfl; clear hb hbox hg5)
    | (go_at_call 26; (refine (is_calls base p ok S _ HT1.out).mono ?_); rintro e w1' ⟨rfl, rfl⟩)
    | (go_at_call 22; (refine (HC.out _ HT1.out).mono ?_); rintro e w2 ⟨rfl, hb⟩; have HB2 := Aside0.mk (HB.out.trans (below_up hb HB.out.size)); have HT2 := Aside0.mk (HT1.out.below hb); have B52 := Aside0.mk (blk_below B5.out hb); clear hb x0 x1; have x0 : w2.cell? ⟨g5, 0, none⟩ = some (.int .i64 s) := (blk_cell B52.out 0).trans rfl; have x1 : w2.cell? ⟨g5, 1, none⟩ = some (.int .i64 g) := (blk_cell B52.out 1).trans rfl)
    | (go_at_call 27; (refine (begin_full base p ok S 1 s g 0 0 now ticks _ HT2.out HX.out).mono ?_); rintro e w3 ⟨rfl, hb⟩; have HB3 := Aside0.mk (HB2.out.trans (below_up hb HB2.out.size)); clear hb x0 x1))
  go_ret
  exact ⟨rfl, HB3.out⟩
set_option maxHeartbeats 1000000 in
set_option maxRecDepth 100000 in
theorem sleep_ok (base p : Nat) (ok : Nat → Prop) (S : TS) (s g now ticks : Int) (w : World) (H : TP w base p ok S) (hs : S.sleeps (s, g) = false) (hlen : S.all.length < 1024) (hlast : S.last < 9223372036854775807) (hn1 : S.next ≤ 1000000000000000000)
    (ha : 0 ≤ now) (ha1 : now < 18446744073709551616) (hb : 0 ≤ ticks) (hb1 : ticks < 18446744073709551616) :
    Calls Try.prog 13 #[.pointer (some ⟨p, 0, none⟩), .agg #[.int .i64 s, .int .i64 g], .int .u64 now, .int .u64 ticks] w fun e w' => ∃ ok', e = .returned (.int .i64 0) ∧ TP w' base p ok' (S.begin ⟨0, 1, ⟨s, g⟩, 0, 0, false, 0⟩ now ticks) ∧ (∀ k, ok' k → ok k ∨ w.heap.size ≤ k) ∧ Fr base ok w w' := by
  have HT := Aside0.mk H
  have HF := Aside0.mk H.fr
  have HC := Aside0.mk (sleeps_calls base p ok S s g)
  have hg : (1 : Int) = 1 → ∀ y ∈ S.sl, gk y ≠ (s, g) := fun _ y hy e => by
    unfold TS.sleeps at hs
    exact absurd ⟨y, hy, e⟩ (of_decide_eq_false hs)
  have HX := Aside0.mk (fun w H => begin_ok base p ok S 1 s g 0 0 now ticks w H hlen hlast hn1 hg ha ha1 hb hb1)
  rw [hs] at HC
  clear H hg hlen hlast hn1 ha ha1 hb hb1
  go_enter Try.func13, Try.ntmps13
  go_wp2_with (first
    | ((with_reducible refine gate_dst (N := 5) rfl ?_); refine box_event ?hg (N := 5) ?hd (cs := #[.int .i64 s, .int .i64 g]) (t := 30) ?hr ?_; (case hd => rfl); (case hg => rfl); (case hr => first | (go_simp; done) | (go_simp; rfl)); intro g5 hg5 w1 hbox hb; have HF1 := Aside0.mk (HF.out.below hb); have HT1 := Aside0.mk (HT.out.below hb); have B5 := Aside0.mk hbox; have x0 : w1.cell? ⟨g5, 0, none⟩ = some (.int .i64 s) := (blk_cell hbox 0).trans rfl; have x1 : w1.cell? ⟨g5, 1, none⟩ = some (.int .i64 g) := (blk_cell hbox 1).trans rfl; clear hb hbox hg5)
    | (go_at_call 26; (refine (is_calls base p ok S _ HT1.out).mono ?_); rintro e w1' ⟨rfl, rfl⟩)
    | (go_at_call 22; (refine (HC.out _ HT1.out).mono ?_); rintro e w2 ⟨rfl, hb⟩; have HF2 := Aside0.mk (HF1.out.below hb); have HT2 := Aside0.mk (HT1.out.below hb); have B52 := Aside0.mk (blk_below B5.out hb); clear hb x0 x1; have x0 : w2.cell? ⟨g5, 0, none⟩ = some (.int .i64 s) := (blk_cell B52.out 0).trans rfl; have x1 : w2.cell? ⟨g5, 1, none⟩ = some (.int .i64 g) := (blk_cell B52.out 1).trans rfl)
    | (go_at_call 27; (refine (HX.out _ HT2.out).mono ?_); rintro e w3 ⟨ok', rfl, h1, h2, h3⟩; have H1 := Aside0.mk h1; have H2 := Aside0.mk (show ∀ k, ok' k → ok k ∨ w.heap.size ≤ k from fun k q => (h2 k q).imp id (Nat.le_trans HF2.out.size)); have H3 := Aside0.mk (HF2.out.then_ h3 (Nat.le_refl _) (fun k q => .inl q)); clear h1 h2 h3 x0 x1))
  go_ret
  exact ⟨ok', rfl, H1.out, H2.out, H3.out⟩
/-! ### when the first is due -/
theorem TP.hp {w : World} {base p : Nat} {ok : Nat → Prop} {S : TS} (H : TP w base p ok S) : ∃ q bi bo bg v H', w.heap[p]? = some (.cells (cS S.last q v bi bo bg) 58 (0, 0)) ∧ HP w base q H' S.hp S.next ∧ (∀ k, H' k → ok k) := by
  obtain ⟨P, v, ids, own, gs, rfl, rfl, h3, _⟩ := H
  exact ⟨P.q, P.bi, P.bo, P.bg, v, P.H, h3.blk, h3.heap, fun k q => .inr (.inr (.inr (.inr (.inl q))))⟩
set_option maxHeartbeats 1000000 in
set_option maxRecDepth 100000 in
theorem next_none (base p : Nat) (ok : Nat → Prop) (S : TS) (w : World) (H : TP w base p ok S) (hS : S.hp = []) :
    Calls Try.prog 20 #[.pointer (some ⟨p, 0, none⟩)] w fun e w' => e = .returned (.tuple #[.int .u64 0, .bool false]) ∧ Below w.heap.size w w' := by
  have HT := Aside0.mk H
  obtain ⟨q, bi, bo, bg, v, H', hb, hh, -⟩ := H.hp
  rw [hS] at hh
  have HH := Aside0.mk hh
  have HB := Aside0.mk (Below.refl w.heap.size w)
  have pq : w.cell? ⟨p, 2, none⟩ = some (.pointer (some ⟨q, 0, none⟩)) := (blk_cell hb 2).trans rfl
  clear H hb hh
  go_enter Try.func20, Try.ntmps20
  go_wp2_with (first
    | (go_at_call 26; (refine (is_calls base p ok S _ HT.out).mono ?_); rintro e w1 ⟨rfl, rfl⟩)
    | (go_at_call 31; (refine (HP.top_none base q H' S.next _ HH.out).mono ?_); rintro e w1 ⟨rfl, hb⟩; have HB1 := Aside0.mk hb; clear hb pq)
    | ((with_reducible refine gate_dst (N := 6) rfl ?_); refine box_event ?hg (N := 6) ?hd (cs := #[.int .i64 0, .int .i64 0, .int .i64 0, .int .i64 0, .int .i64 0, .int .u64 0, .bool false, .int .u64 0]) (t := 40) ?hr ?_; (case hd => rfl); (case hg => rfl); (case hr => first | (go_simp; done) | (go_simp; rfl)); intro g6 hg6 w2 hbox hb; have HB2 := Aside0.mk (below_step HB1.out hb); have B6 := Aside0.mk hbox; have HN := Aside0.mk (show w.heap.size ≤ g6 from by have := HB1.out.size; omega); clear hb hbox hg6)
    | ((with_reducible refine gate_store (t := 40) (p := 6) (v := .tmp 19) rfl ?_); refine step_store rfl rfl rfl B6.out rfl (u := .agg #[.int .i64 0, .int .i64 0, .int .i64 0, .int .i64 0, .int .i64 0, .int .u64 0, .bool false, .int .u64 0]) (seg := [.int .i64 0, .int .i64 0, .int .i64 0, .int .i64 0, .int .i64 0, .int .u64 0, .bool false, .int .u64 0]) rfl rfl (by kernel_rfl) (by simp [Value.oneCell']) (Nat.le_refl 8) (cur' := #[.int .i64 0, .int .i64 0, .int .i64 0, .int .i64 0, .int .i64 0, .int .u64 0, .bool false, .int .u64 0]) rfl ?_; intro w3 hb3 hg3 hs3; have HB3 := Aside0.mk (below_mput HB2.out hg3 HN.out HB2.out.size); clear hb3 hg3 hs3))
  go_ret2
  exact ⟨rfl, HB3.out⟩
end Go.Proofs.Ytceopcfmhidjlaa.PTimerPlays

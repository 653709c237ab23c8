/- arm, at a timer that will be due. Conditions: the theorem's own. -/
import Derived.Test.YtceopcfmhidjlaaTst
import Derived.Deep.RegionHeld3
set_option linter.unusedVariables false
set_option linter.unusedSimpArgs false
namespace Go.Proofs.Ytceopcfmhidjlaa.PTimerPlays
open Go.RowKit Go.Proofs.Ytceopcfmhidjlaa.Ef Go.Proofs.Ytceopcfmhidjlaa.Mp Go.Proofs.Ytceopcfmhidjlaa.Hp Go.Proofs.YtceopcfmhidjlaaW.PrintWords Go.Proofs.YtceopcfmhidjlaaW.PrintLast Go.Proofs.YtceopcfmhidjlaaW.PrintMore

def gsN (k s g i : Int) (gs : List ((Int × Int) × Value)) : List ((Int × Int) × Value) := if k = 1 then ins (s, g) (.int .i64 i) gs else gs
set_option maxHeartbeats 4000000 in
set_option maxRecDepth 100000 in
theorem arm_due (base : Nat) (P : Pl) (v : Value) (last : Int) (hp : List NI) (next : Int) (nv : List Tm) (ids own : List (Int × Value)) (gs : List ((Int × Int) × Value)) (xi xk xs xg xc xt xp : Int) (w : World)
    (H : TA w base P v last hp next nv ids own gs) (hn : ∀ x ∈ hp, x.num ≠ next) (hsm : (hp.length + 1) * 80 ≤ 140737488355328) (hn0 : 0 ≤ next) (hn1 : next ≤ 1000000000000000000) :
    Calls Try.prog 33 #[.pointer (some ⟨P.p, 0, none⟩), .agg #[.int .i64 xi, .int .i64 xk, .int .i64 xs, .int .i64 xg, .int .i64 xc, .int .u64 xt, .bool false, .int .u64 xp]] w fun e w' => ∃ H' : Nat → Prop, e = .returned (.tuple #[]) ∧
      TA w' base { P with H := H' } v last (hp ++ [⟨xt, next, ⟨xi, xk, ⟨xs, xg⟩, xc, xt, false, xp⟩⟩]) (next + 1) nv (ins xi (plc next false) ids) (ins xi (.agg #[.int .i64 xi, .int .i64 xk, .int .i64 xs, .int .i64 xg, .int .i64 xc, .int .u64 xt, .bool false, .int .u64 xp]) own) (gsN xk xs xg xi gs) ∧ (∀ k, H' k → P.H k ∨ w.heap.size ≤ k) ∧ Fr base P.ok w w' := by
  have HH := Aside0.mk H
  have HF := Aside0.mk (Fr.refl H.le H.fine.low)
  have HN := Aside0.mk hn
  clear H hn
  go_enter Try.func33, Try.ntmps33
  go_wp2_with (first
    | ((with_reducible refine gate_dst (N := 3) rfl ?_); refine box_event ?hg (N := 3) ?hd (cs := #[.int .i64 xi, .int .i64 xk, .int .i64 xs, .int .i64 xg, .int .i64 xc, .int .u64 xt, .bool false, .int .u64 xp]) (t := 40) ?hr ?_; (case hd => rfl); (case hg => rfl); (case hr => first | (go_simp; done) | (go_simp; rfl)); intro g3 hg3 w1 hbox hb; have HA1 := Aside0.mk (HH.out.below hb); have HF1 := Aside0.mk (HF.out.below hb); have B3 := Aside0.mk hbox; have HG3 := Aside0.mk (show w.heap.size ≤ g3 by omega); have x6 : w1.cell? ⟨g3, 6, none⟩ = some (.bool false) := (blk_cell hbox 6).trans rfl; clear hb hbox hg3)
    | ((with_reducible refine gate_dst (N := 4) rfl ?_); refine box_event ?hg (N := 4) ?hd (cs := #[.int .i64 0, .bool false]) (t := 73) ?hr ?_; (case hd => rfl); (case hg => rfl); (case hr => first | (go_simp; done) | (go_simp; rfl)); intro g4 hg4 w2 hbox hb; have HA2 := Aside0.mk (HA1.out.below hb); have HF2 := Aside0.mk (HF1.out.below hb); have B32 := Aside0.mk (blk_below B3.out hb); have B4 := Aside0.mk hbox; have HG4 := Aside0.mk (show w.heap.size ≤ g4 from by have := HF1.out.size; omega); have HE := Aside0.mk (show g3 ≠ g4 from by have := blk_lt B3.out; omega); clear hb hbox hg4 x6 HA1 HF1 B3)
    | ((with_reducible refine gate_store (t := 73) (p := 4) (v := .tmp 7) rfl ?_); refine step_store rfl rfl rfl B4.out rfl (u := .agg #[.int .i64 0, .bool false]) (seg := [.int .i64 0, .bool false]) rfl rfl (by kernel_rfl) (by simp [Value.oneCell']) (Nat.le_refl 2) (cur' := #[.int .i64 0, .bool false]) rfl ?_; intro w3 hb3 hg3 hs3; have HA3 := Aside0.mk (HA2.out.grown hg3 (HH.out.new HG4.out)); have HF3 := Aside0.mk (HF2.out.grown hg3 (.inr HG4.out)); have B33 := Aside0.mk (blk_grown B32.out hg3 (fun e => HE.out (Option.some.inj e))); have B43 := Aside0.mk hb3; clear hb3 hg3 hs3 HA2 HF2 B32 B4; have x6 : w3.cell? ⟨g3, 6, none⟩ = some (.bool false) := (blk_cell B33.out 6).trans rfl))
  have x0 : w3.cell? ⟨g3, 0, none⟩ = some (.int .i64 xi) := (blk_cell B33.out 0).trans rfl
  have x1 : w3.cell? ⟨g3, 1, none⟩ = some (.int .i64 xk) := (blk_cell B33.out 1).trans rfl
  have x2 : w3.cell? ⟨g3, 2, none⟩ = some (.int .i64 xs) := (blk_cell B33.out 2).trans rfl
  have x3 : w3.cell? ⟨g3, 3, none⟩ = some (.int .i64 xg) := (blk_cell B33.out 3).trans rfl
  have x4 : w3.cell? ⟨g3, 4, none⟩ = some (.int .i64 xc) := (blk_cell B33.out 4).trans rfl
  have x5 : w3.cell? ⟨g3, 5, none⟩ = some (.int .u64 xt) := (blk_cell B33.out 5).trans rfl
  have x7 : w3.cell? ⟨g3, 7, none⟩ = some (.int .u64 xp) := (blk_cell B33.out 7).trans rfl
  have pq : w3.cell? ⟨P.p, 2, none⟩ = some (.pointer (some ⟨P.q, 0, none⟩)) := (blk_cell HA3.out.blk 2).trans rfl
  go_still_tail 7, (by kernel_rfl)
  change wpList _ _ _ _ _ w3.drew
  have HA4 := Aside0.mk HA3.out.drew
  have HF4 := Aside0.mk HF3.out.drew
  have B34 : Aside0 (w3.drew.heap[g3]? = some (.cells #[.int .i64 xi, .int .i64 xk, .int .i64 xs, .int .i64 xg, .int .i64 xc, .int .u64 xt, .bool false, .int .u64 xp] 40 (0, 0))) := ⟨B33.out⟩
  have B44 : Aside0 (w3.drew.heap[g4]? = some (.cells #[.int .i64 0, .bool false] 73 (0, 0))) := ⟨B43.out⟩
  clear x0 x1 x2 x3 x4 x5 x6 x7 pq HA3 HF3 B33 B43
  generalize w3.drew = w4 at *
  have info3 : (Try.prog.info? 3).map (·.size) = some 1 := by kernel_rfl
  go_wp2_with (first
    | (go_at_call 50; (refine (HP.push base P.q P.H hp next xt ⟨xi, xk, ⟨xs, xg⟩, xc, xt, false, xp⟩ _ HA4.out.heap HN.out hsm hn0 hn1).mono ?_); rintro e w5 ⟨H', rfl, hh, hn, hF⟩; have HA5 := Aside0.mk (HA4.out.heaped hh hF.k (fun k q => (hn k q).imp id (fun r => r))); have HF5 := Aside0.mk (HF4.out.then_ hF (Nat.le_refl _) (fun k q => .inl (.inr (.inr (.inr (.inr (.inl q))))))); have HN5 := Aside0.mk (show ∀ k, H' k → P.H k ∨ w.heap.size ≤ k from fun k q => (hn k q).imp id (Nat.le_trans HF4.out.size)); have B35 := Aside0.mk (hF.blk B34.out (fun q => HH.out.new HG3.out (.inr (.inr (.inr (.inr (.inl q))))))); have B45 := Aside0.mk (hF.blk B44.out (fun q => HH.out.new HG4.out (.inr (.inr (.inr (.inr (.inl q))))))); have HZ4 := Aside0.mk (Pl.nokH (H' := H') (HH.out.new HG4.out) (fun q => (hn g4 q).elim (fun r => HH.out.new HG4.out (.inr (.inr (.inr (.inr (.inl r)))))) (fun r => by have := blk_lt B44.out; omega))); have HZ3 := Aside0.mk (Pl.nokH (H' := H') (HH.out.new HG3.out) (fun q => (hn g3 q).elim (fun r => HH.out.new HG3.out (.inr (.inr (.inr (.inr (.inl r)))))) (fun r => by have := blk_lt B34.out; omega))); clear hh hn hF HA4 HF4 B34 B44)
    | ((with_reducible refine gate_store (t := 3) (p := 28) (v := .tmp 27) rfl ?_); refine step_store rfl rfl rfl B45.out rfl (u := .int .i64 next) (seg := [.int .i64 next]) rfl rfl info3 (by simp [Value.oneCell']) (by show 0 + 1 ≤ 2; omega) (cur' := #[.int .i64 next, .bool false]) rfl ?_; intro w6 hb6 hg6 hs6; have HA6 := Aside0.mk (HA5.out.grown hg6 HZ4.out); have HF6 := Aside0.mk (HF5.out.grown hg6 (.inr HG4.out)); have B36 := Aside0.mk (blk_grown B35.out hg6 (fun e => HE.out (Option.some.inj e))); have B46 := Aside0.mk hb6; clear hb6 hg6 hs6 HA5 HF5 B35 B45))
  have x0 : w6.cell? ⟨g3, 0, none⟩ = some (.int .i64 xi) := (blk_cell B36.out 0).trans rfl
  have x1 : w6.cell? ⟨g3, 1, none⟩ = some (.int .i64 xk) := (blk_cell B36.out 1).trans rfl
  have x2 : w6.cell? ⟨g3, 2, none⟩ = some (.int .i64 xs) := (blk_cell B36.out 2).trans rfl
  have x3 : w6.cell? ⟨g3, 3, none⟩ = some (.int .i64 xg) := (blk_cell B36.out 3).trans rfl
  have x4 : w6.cell? ⟨g3, 4, none⟩ = some (.int .i64 xc) := (blk_cell B36.out 4).trans rfl
  have x5 : w6.cell? ⟨g3, 5, none⟩ = some (.int .u64 xt) := (blk_cell B36.out 5).trans rfl
  have x6 : w6.cell? ⟨g3, 6, none⟩ = some (.bool false) := (blk_cell B36.out 6).trans rfl
  have x7 : w6.cell? ⟨g3, 7, none⟩ = some (.int .u64 xp) := (blk_cell B36.out 7).trans rfl
  have y0 : w6.cell? ⟨g4, 0, none⟩ = some (.int .i64 next) := (blk_cell B46.out 0).trans rfl
  have y1 : w6.cell? ⟨g4, 1, none⟩ = some (.bool false) := (blk_cell B46.out 1).trans rfl
  have pi : w6.cell? ⟨P.p, 4, none⟩ = some (.map (some P.bi)) := (blk_cell HA6.out.blk 4).trans rfl
  have po : w6.cell? ⟨P.p, 5, none⟩ = some (.map (some P.bo)) := (blk_cell HA6.out.blk 5).trans rfl
  have HA7 := Aside0.mk HA6.out.drew
  have HF7 := Aside0.mk HF6.out.drew
  have B37 : w6.drew.heap[g3]? = some (.cells #[.int .i64 xi, .int .i64 xk, .int .i64 xs, .int .i64 xg, .int .i64 xc, .int .u64 xt, .bool false, .int .u64 xp] 40 (0, 0)) := B36.out
  have B47 : w6.drew.heap[g4]? = some (.cells #[.int .i64 next, .bool false] 73 (0, 0)) := B46.out
  have n4i : some g4 ≠ some P.bi := fun e => HZ4.out (.inr (.inl (Option.some.inj e)))
  have n3i : some g3 ≠ some P.bi := fun e => HZ3.out (.inr (.inl (Option.some.inj e)))
  have n4o : some g4 ≠ some P.bo := fun e => HZ4.out (.inr (.inr (.inl (Option.some.inj e))))
  have n3o : some g3 ≠ some P.bo := fun e => HZ3.out (.inr (.inr (.inl (Option.some.inj e))))
  have npi : some P.p ≠ some P.bi := fun e => HA7.out.fine.pi (Option.some.inj e)
  have npo : some P.p ≠ some P.bo := fun e => HA7.out.fine.po (Option.some.inj e)
  obtain ⟨v0, st, w8, h8, hE8, hg8, -⟩ := run_entry keyL Try.underlying54 (zeroP _) HA7.out.mi xi
  obtain ⟨w9, h9, hm9, hg9, -⟩ := run_estore (P := Try.prog) (T := 54) hE8 (plc next false)
  have HA9 := HA7.out.ided hm9 (grown_trans hg8 hg9)
  have B39 := blk_grown B37 (grown_trans hg8 hg9) n3i
  have B49 := blk_grown B47 (grown_trans hg8 hg9) n4i
  obtain ⟨v1, st1, w10, h10, hE10, hg10, -⟩ := run_entry keyL Try.underlying55 (zeroT _) HA9.mo xi
  obtain ⟨w11, h11, hm11, hg11, -⟩ := run_estore (P := Try.prog) (T := 55) hE10 (.agg #[.int .i64 xi, .int .i64 xk, .int .i64 xs, .int .i64 xg, .int .i64 xc, .int .u64 xt, .bool false, .int .u64 xp])
  have HA11 := Aside0.mk (HA9.owned hm11 (grown_trans hg10 hg11))
  have HF11 := Aside0.mk ((HF7.out.grown (grown_trans hg8 hg9) (.inl (.inr (.inl rfl)))).grown (grown_trans hg10 hg11) (.inl (.inr (.inr (.inl rfl)))))
  have B311 := Aside0.mk (blk_grown B39 (grown_trans hg10 hg11) n3o)
  have K8 : Aside0 (w8.cell? ⟨P.p, 4, none⟩ = some (.map (some P.bi)) ∧ w8.cell? ⟨P.p, 5, none⟩ = some (.map (some P.bo)) ∧ w8.cell? ⟨g3, 0, none⟩ = some (.int .i64 xi) ∧ w8.cell? ⟨g3, 1, none⟩ = some (.int .i64 xk) ∧ w8.cell? ⟨g3, 2, none⟩ = some (.int .i64 xs) ∧ w8.cell? ⟨g3, 3, none⟩ = some (.int .i64 xg) ∧ w8.cell? ⟨g3, 4, none⟩ = some (.int .i64 xc) ∧ w8.cell? ⟨g3, 5, none⟩ = some (.int .u64 xt) ∧ w8.cell? ⟨g3, 6, none⟩ = some (.bool false) ∧ w8.cell? ⟨g3, 7, none⟩ = some (.int .u64 xp) ∧ w8.cell? ⟨g4, 0, none⟩ = some (.int .i64 next) ∧ w8.cell? ⟨g4, 1, none⟩ = some (.bool false)) := ⟨⟨(blk_cell (blk_grown HA7.out.blk hg8 npi) 4).trans rfl, (blk_cell (blk_grown HA7.out.blk hg8 npi) 5).trans rfl, (blk_cell (blk_grown B37 hg8 n3i) 0).trans rfl, (blk_cell (blk_grown B37 hg8 n3i) 1).trans rfl, (blk_cell (blk_grown B37 hg8 n3i) 2).trans rfl, (blk_cell (blk_grown B37 hg8 n3i) 3).trans rfl, (blk_cell (blk_grown B37 hg8 n3i) 4).trans rfl, (blk_cell (blk_grown B37 hg8 n3i) 5).trans rfl, (blk_cell (blk_grown B37 hg8 n3i) 6).trans rfl, (blk_cell (blk_grown B37 hg8 n3i) 7).trans rfl, (blk_cell (blk_grown B47 hg8 n4i) 0).trans rfl, (blk_cell (blk_grown B47 hg8 n4i) 1).trans rfl⟩⟩
  have K9 : Aside0 (w9.cell? ⟨P.p, 4, none⟩ = some (.map (some P.bi)) ∧ w9.cell? ⟨P.p, 5, none⟩ = some (.map (some P.bo)) ∧ w9.cell? ⟨g3, 0, none⟩ = some (.int .i64 xi) ∧ w9.cell? ⟨g3, 1, none⟩ = some (.int .i64 xk) ∧ w9.cell? ⟨g3, 2, none⟩ = some (.int .i64 xs) ∧ w9.cell? ⟨g3, 3, none⟩ = some (.int .i64 xg) ∧ w9.cell? ⟨g3, 4, none⟩ = some (.int .i64 xc) ∧ w9.cell? ⟨g3, 5, none⟩ = some (.int .u64 xt) ∧ w9.cell? ⟨g3, 6, none⟩ = some (.bool false) ∧ w9.cell? ⟨g3, 7, none⟩ = some (.int .u64 xp) ∧ w9.cell? ⟨g4, 0, none⟩ = some (.int .i64 next) ∧ w9.cell? ⟨g4, 1, none⟩ = some (.bool false)) := ⟨⟨(blk_cell HA9.blk 4).trans rfl, (blk_cell HA9.blk 5).trans rfl, (blk_cell B39 0).trans rfl, (blk_cell B39 1).trans rfl, (blk_cell B39 2).trans rfl, (blk_cell B39 3).trans rfl, (blk_cell B39 4).trans rfl, (blk_cell B39 5).trans rfl, (blk_cell B39 6).trans rfl, (blk_cell B39 7).trans rfl, (blk_cell B49 0).trans rfl, (blk_cell B49 1).trans rfl⟩⟩
  have K10 : Aside0 (w10.cell? ⟨P.p, 4, none⟩ = some (.map (some P.bi)) ∧ w10.cell? ⟨P.p, 5, none⟩ = some (.map (some P.bo)) ∧ w10.cell? ⟨g3, 0, none⟩ = some (.int .i64 xi) ∧ w10.cell? ⟨g3, 1, none⟩ = some (.int .i64 xk) ∧ w10.cell? ⟨g3, 2, none⟩ = some (.int .i64 xs) ∧ w10.cell? ⟨g3, 3, none⟩ = some (.int .i64 xg) ∧ w10.cell? ⟨g3, 4, none⟩ = some (.int .i64 xc) ∧ w10.cell? ⟨g3, 5, none⟩ = some (.int .u64 xt) ∧ w10.cell? ⟨g3, 6, none⟩ = some (.bool false) ∧ w10.cell? ⟨g3, 7, none⟩ = some (.int .u64 xp) ∧ w10.cell? ⟨g4, 0, none⟩ = some (.int .i64 next) ∧ w10.cell? ⟨g4, 1, none⟩ = some (.bool false)) := ⟨⟨(blk_cell (blk_grown HA9.blk hg10 npo) 4).trans rfl, (blk_cell (blk_grown HA9.blk hg10 npo) 5).trans rfl, (blk_cell (blk_grown B39 hg10 n3o) 0).trans rfl, (blk_cell (blk_grown B39 hg10 n3o) 1).trans rfl, (blk_cell (blk_grown B39 hg10 n3o) 2).trans rfl, (blk_cell (blk_grown B39 hg10 n3o) 3).trans rfl, (blk_cell (blk_grown B39 hg10 n3o) 4).trans rfl, (blk_cell (blk_grown B39 hg10 n3o) 5).trans rfl, (blk_cell (blk_grown B39 hg10 n3o) 6).trans rfl, (blk_cell (blk_grown B39 hg10 n3o) 7).trans rfl, (blk_cell (blk_grown B49 hg10 n4o) 0).trans rfl, (blk_cell (blk_grown B49 hg10 n4o) 1).trans rfl⟩⟩
  have K11 : Aside0 (w11.cell? ⟨P.p, 4, none⟩ = some (.map (some P.bi)) ∧ w11.cell? ⟨P.p, 5, none⟩ = some (.map (some P.bo)) ∧ w11.cell? ⟨g3, 0, none⟩ = some (.int .i64 xi) ∧ w11.cell? ⟨g3, 1, none⟩ = some (.int .i64 xk) ∧ w11.cell? ⟨g3, 2, none⟩ = some (.int .i64 xs) ∧ w11.cell? ⟨g3, 3, none⟩ = some (.int .i64 xg) ∧ w11.cell? ⟨g3, 4, none⟩ = some (.int .i64 xc) ∧ w11.cell? ⟨g3, 5, none⟩ = some (.int .u64 xt) ∧ w11.cell? ⟨g3, 6, none⟩ = some (.bool false) ∧ w11.cell? ⟨g3, 7, none⟩ = some (.int .u64 xp) ∧ w11.cell? ⟨g4, 0, none⟩ = some (.int .i64 next) ∧ w11.cell? ⟨g4, 1, none⟩ = some (.bool false)) := ⟨⟨(blk_cell HA11.out.blk 4).trans rfl, (blk_cell HA11.out.blk 5).trans rfl, (blk_cell B311.out 0).trans rfl, (blk_cell B311.out 1).trans rfl, (blk_cell B311.out 2).trans rfl, (blk_cell B311.out 3).trans rfl, (blk_cell B311.out 4).trans rfl, (blk_cell B311.out 5).trans rfl, (blk_cell B311.out 6).trans rfl, (blk_cell B311.out 7).trans rfl, (blk_cell (blk_grown B49 (grown_trans hg10 hg11) n4o) 0).trans rfl, (blk_cell (blk_grown B49 (grown_trans hg10 hg11) n4o) 1).trans rfl⟩⟩
  clear hE8 hg8 hm9 hg9 hE10 hg10 hm11 hg11 HA9 B37 B47 B39 B49 n3i n4i n3o n4o npi npo
  go_region_held3 (fun w' => w'.cell? ⟨P.p, 4, none⟩ = some (.map (some P.bi)) ∧ w'.cell? ⟨P.p, 5, none⟩ = some (.map (some P.bo)) ∧ w'.cell? ⟨g3, 0, none⟩ = some (.int .i64 xi) ∧ w'.cell? ⟨g3, 1, none⟩ = some (.int .i64 xk) ∧ w'.cell? ⟨g3, 2, none⟩ = some (.int .i64 xs) ∧ w'.cell? ⟨g3, 3, none⟩ = some (.int .i64 xg) ∧ w'.cell? ⟨g3, 4, none⟩ = some (.int .i64 xc) ∧ w'.cell? ⟨g3, 5, none⟩ = some (.int .u64 xt) ∧ w'.cell? ⟨g3, 6, none⟩ = some (.bool false) ∧ w'.cell? ⟨g3, 7, none⟩ = some (.int .u64 xp) ∧ w'.cell? ⟨g4, 0, none⟩ = some (.int .i64 next) ∧ w'.cell? ⟨g4, 1, none⟩ = some (.bool false)) (first | exact K8.out | exact K9.out | exact K10.out | exact K11.out | go_keep) (fail)
  clear K8 K9 K10 K11 h8 h9 h10 h11 x0 x1 x2 x3 x4 x5 x6 x7 y0 y1 pi po HA6 HF6 B36 B46 HA7 HF7
  rename_i hHeld
  clear hHeld
  have x1 : w11.cell? ⟨g3, 1, none⟩ = some (.int .i64 xk) := (blk_cell B311.out 1).trans rfl
  by_cases hk : xk = 1
  · subst hk
    go_wp2
    have x0 : w11.cell? ⟨g3, 0, none⟩ = some (.int .i64 xi) := (blk_cell B311.out 0).trans rfl
    have x2 : w11.cell? ⟨g3, 2, none⟩ = some (.int .i64 xs) := (blk_cell B311.out 2).trans rfl
    have x3 : w11.cell? ⟨g3, 3, none⟩ = some (.int .i64 xg) := (blk_cell B311.out 3).trans rfl
    have pg : w11.cell? ⟨P.p, 6, none⟩ = some (.map (some P.bg)) := (blk_cell HA11.out.blk 6).trans rfl
    go_still_tail 8, (by kernel_rfl)
    change wpList _ _ _ _ _ w11.drew
    have HA12 := Aside0.mk HA11.out.drew
    have HF12 := Aside0.mk HF11.out.drew
    clear x0 x1 x2 x3 pg HA11 HF11 B311
    generalize w11.drew = w12 at *
    go_wp2_with ((with_reducible refine gate_put (T := 56) (x := .tmp 53) (y := .tmp 55) (u := .tmp 57) rfl ?_); refine step_put keyG Try.underlying56 rfl rfl HA12.out.mg (xs, xg) (.int .i64 xi) rfl rfl rfl ?_; intro w13 hm hg hs; have HA13 := Aside0.mk (HA12.out.gsed hm hg); have HF13 := Aside0.mk (HF12.out.grown hg (.inl (.inr (.inr (.inr (.inl rfl)))))); clear hm hg hs HA12 HF12)
    go_end0
    first | refine ⟨H', rfl, ?_, HN5.out, HF13.out⟩ | refine ⟨rfl, H', ?_, HN5.out, HF13.out⟩
    rw [show gsN 1 xs xg xi gs = ins (xs, xg) (.int .i64 xi) gs from if_pos rfl]
    exact HA13.out
  · have hk' : (xk == 1) = false := by simp [hk]
    go_wp2
    go_end0
    first | refine ⟨H', rfl, ?_, HN5.out, HF11.out⟩ | refine ⟨rfl, H', ?_, HN5.out, HF11.out⟩
    rw [show gsN xk xs xg xi gs = gs from if_neg hk]
    exact HA11.out
end Go.Proofs.Ytceopcfmhidjlaa.PTimerPlays

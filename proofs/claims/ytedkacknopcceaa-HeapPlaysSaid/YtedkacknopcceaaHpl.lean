/- rotalaw05.HeapPlays: any script. Conditions: each theorem's own. -/
import Derived.Test.YtedkacknopcceaaHda
import Derived.Test.YtedkacknopcceaaHlv
set_option linter.unusedVariables false
set_option linter.unusedSimpArgs false
namespace Go.Proofs.Ytedkacknopcceaa.QHeap
open Go.RowKit Go.Proofs.Ytedkacknopcceaa.Ef Go.Proofs.Ytedkacknopcceaa.Mp Go.Proofs.Ytedkacknopcceaa.Hp Go.Proofs.YtedkacknopcceaaW.PrintWords Go.Proofs.YtedkacknopcceaaW.PrintLast Go.Proofs.YtedkacknopcceaaW.PrintMore

structure S46 where
  f0 : Int
  f1 : Int
  f2 : Int
def z46 : S46 := ⟨(0 : Int), (0 : Int), (0 : Int)⟩
def k46 : Kd S46 := Kd.iso (Kd.pair (Kd.int .i64) (Kd.pair (Kd.int .u64) (Kd.int .i64))) (fun x : S46 => (x.f0, x.f1, x.f2))
theorem act_open {w : World} {x : S46} {cs : List Value} (h : k46.K w x cs) : cs = [.int .i64 x.f0, .int .u64 x.f1, .int .i64 x.f2] := by
  obtain ⟨_, _, rfl, rfl, ⟨_, _, rfl, rfl, rfl⟩⟩ := h
  exact rfl
theorem at_act {w : World} {A : Option Addr} {n : Nat} {xs : List S46} (h : Kd.C k46 w A n xs) (i : Int) (h0 : 0 ≤ i) (h1 : i < n) : ∃ (ad : Addr) (x : S46), A = some ad ∧ w.cell? (ad.add (i.toNat * 3)) = some (.int .i64 x.f0) ∧ w.cell? ⟨(ad.add (i.toNat * 3)).block, (ad.add (i.toNat * 3)).off + 1, none⟩ = some (.int .u64 x.f1) ∧ w.cell? ⟨(ad.add (i.toNat * 3)).block, (ad.add (i.toNat * 3)).off + 2, none⟩ = some (.int .i64 x.f2) := by
  obtain ⟨ad, c, e, _, hK, hc0⟩ := Kd.C_get h z46 i h0 h1
  have hc : ∀ j u, c[j]? = some u → w.cell? (ad.add (i.toNat * 3 + j)) = some u := hc0
  obtain rfl := act_open hK
  exact ⟨ad, xs.getD i.toNat z46, e, hc 0 _ rfl, by rw [← add_field _ _ 1 (by omega)]; exact hc 1 _ rfl, by rw [← add_field _ _ 2 (by omega)]; exact hc 2 _ rfl⟩
theorem Two.new {w : World} {base p : Nat} {ok : Nat → Prop} (h : HP w base p ok [] 0) : Two w base p ok (fun _ => False) (.slice none ([] : List S34).length 0) [] 0 :=
  ⟨h, Kd.R_nil _ _ _ _ _, fun _ _ q => q, fun _ q => q.elim, fun _ hx => by simp at hx, Int.le_refl _⟩

set_option maxHeartbeats 4000000 in
set_option maxRecDepth 100000 in
theorem plays_calls (A0 : Option Addr) (c0 : Nat) (l0 : List S46) (w : World) (hr0 : Kd.C k46 w A0 l0.length l0) (hs0 : l0.length ≤ most) :
    Calls Try.prog 4 #[.slice A0 l0.length c0] w fun e w' => e = .returned (.bool true) ∧ Below w.heap.size w w' := by
  have HR0 := Aside0.mk hr0
  have hb0 : (l0.length : Int) ≤ 5864062014804 := by unfold most at hs0; omega
  have hu42 := Try.underlying42
  clear hr0
  go_enter Try.func4, Try.ntmps4
  go_wp2_with (first
    | (go_at_call 7; (refine (HP.new _).mono ?_); rintro e w1 ⟨p, rfl, hA, hb⟩; have HA1 := Aside0.mk hA; have HB1 := Aside0.mk hb; clear hA hb)
    | (go_at_call 8; (refine (lives_calls _).mono ?_); rintro e w2 ⟨rfl, hb⟩; have HA2 := Aside0.mk (HA1.out.below hb); have HB2 := Aside0.mk (below_step HB1.out hb); clear hb HA1 HB1)
    | ((with_reducible refine gate_dst (N := 4) rfl ?_); refine box_event ?hg (N := 4) ?hd (cs := #[.slice none 0 0, .int .i64 0]) (t := 42) ?hr ?_; (case hd => rfl); (case hg => rfl); (case hr => first | (go_simp; done) | (go_simp; rfl)); intro g3 hg3 w3 hbox hb; have HE3 := Aside0.mk (show w.heap.size ≤ g3 from by have := HB2.out.size; omega); have HN3 := Aside0.mk (show w2.heap.size ≤ g3 by omega); have HB3 := Aside0.mk (below_step HB2.out hb); have B3 := Aside0.mk hbox; have HA3 := Aside0.mk (HA2.out.below hb); clear hb hbox hg3 HB2)
    | ((with_reducible refine gate_store (t := 42) (p := 4) (v := .tmp 14) rfl ?_); refine step_store rfl rfl rfl B3.out rfl (u := .agg #[.slice none 0 0, .int .i64 0]) (seg := [.slice none 0 0, .int .i64 0]) rfl rfl (by kernel_rfl) (by simp [Value.oneCell']) (Nat.le_refl 2) (cur' := #[.slice none 0 0, .int .i64 0]) rfl ?_; intro w4 hb4 hg4 hs4; have HB4 := Aside0.mk (below_mput HB3.out hg4 HE3.out HB3.out.size); have B4 := Aside0.mk hb4; have HX := Aside0.mk (show ∀ k, _ → k ≠ g3 from fun k q e => by have := (HA2.out.bound k q).2; have := HN3.out; omega); have T4 := Aside0.mk (Two.new (HA3.out.kept (Kept.of_grown hg4 (Kept.refl _ (fun k => k = g3)) (fun k hk => by cases hk; exact .inl rfl)) HX.out)); clear hb4 hg4 hs4 HB3 B3 HA3 HA2))
  go_loopw [5, 6] (fun v5 v6 wr => ∃ (i : Nat) (ok P : Nat → Prop) (l : List S34) (A : Option Addr) (c : Nat) (next : Int), v5 = .bool true ∧ v6 = .int .i64 (i : Int) ∧ Aside0 (i ≤ l0.length ∧ l.length ≤ i ∧ next ≤ i) ∧ Aside0 (Two wr w.heap.size p ok P (.slice A l.length c) l next) ∧ Aside0 (¬ ok g3 ∧ ¬ P g3) ∧ Aside0 (wr.heap[g3]? = some (.cells #[.slice A l.length c, .int .i64 next] 42 (0, 0))) ∧ Aside0 (Below w.heap.size w wr)) (fun _ v6 _ => l0.length - (intOf v6).toNat)
  case atStart => exact ⟨0, _, _, [], none, 0, 0, rfl, rfl, ⟨Nat.zero_le _, Nat.le_refl _, Int.le_refl _⟩, T4, ⟨fun q => HX.out _ q rfl, id⟩, B4, HB4⟩
  case round =>
    clear T4 B4 HB4 HX
    obtain ⟨i, ok, P, l, A, c, next, rfl, rfl, HI, HT, HG, HBk, HB⟩ := hrel
    by_cases hlt : (i : Int) < (l0.length : Int)
    · obtain ⟨ad, x, rfl, hx0, hx1, hx2⟩ := at_act HR0.out (i : Int) (by omega) hlt
      replace hx0 := (HB.out.cell (World.block_lt_of_cell? w _ hx0)).trans hx0
      replace hx1 := (HB.out.cell (World.block_lt_of_cell? w _ hx1)).trans hx1
      replace hx2 := (HB.out.cell (World.block_lt_of_cell? w _ hx2)).trans hx2
      rw [Int.toNat_natCast] at hx0 hx1 hx2
      obtain ⟨y0, e0⟩ : ∃ y, x.f0 = y := ⟨_, rfl⟩
      obtain ⟨y1, e1⟩ : ∃ y, x.f1 = y := ⟨_, rfl⟩
      obtain ⟨y2, e2⟩ : ∃ y, x.f2 = y := ⟨_, rfl⟩
      rw [e0] at hx0
      rw [e1] at hx1
      rw [e2] at hx2
      clear e0 e1 e2
      have s0 : wr.cell? ⟨g3, 0, none⟩ = some (.slice A l.length c) := (blk_cell HBk.out 0).trans rfl
      have s1 : wr.cell? ⟨g3, 1, none⟩ = some (.int .i64 next) := (blk_cell HBk.out 1).trans rfl
      have hl1 : l.length < most := by have := HI.out; omega
      have hn1 : next ≤ (most : Nat) := by have := HI.out; omega
      go_wp2
      go_region_with (go_at_call 13; (refine (does_calls p ok P l A c next y0 y1 y2 w _ (pw_below_drewN HB.out _) (HT.out.below (pw_below_drewN (Below.refl _ _) _)) hl1 hn1).mono ?_); rintro e w5 ⟨ok', P', l', A', c', next', rfl, hT, h1, h2, h3, h4, hF⟩; have HT5 := Aside0.mk hT; have HB5 := Aside0.mk (hF.new (w := wr.drewN 1) (pw_below_drewN HB.out 1) (fun k q => q.elim (fun q => (HT.out.heap.bound k q).1) (fun q => (HT.out.bound k q).1))); have B5 := Aside0.mk (hF.blk (w := wr.drewN 1) HBk.out (fun q => q.elim HG.out.1 HG.out.2)); have HI5 := Aside0.mk (And.intro h1 h2); have HG5 := Aside0.mk (And.intro (show ¬ ok' g3 from fun q => (h3 g3 q).elim HG.out.1 (fun q => Nat.not_lt.2 q (blk_lt HBk.out))) (show ¬ P' g3 from fun q => (h4 g3 q).elim HG.out.2 (fun q => Nat.not_lt.2 q (blk_lt HBk.out)))); clear hT h1 h2 h3 h4 hF s0 s1 hx0 hx1 hx2; have s0 : w5.cell? ⟨g3, 0, none⟩ = some (.slice A l.length c) := (blk_cell B5.out 0).trans rfl; have s1 : w5.cell? ⟨g3, 1, none⟩ = some (.int .i64 next) := (blk_cell B5.out 1).trans rfl; have z0 := blk_frozen B5.out 0; have z1 := blk_frozen B5.out 1)
      all_goals
        go_wp2
        have q1 := set_step (cur' := #[.slice A' l'.length c', .int .i64 next]) B5.out 0 (.slice A' l'.length c') rfl
        have q2 := set_step (cur' := #[.slice A' l'.length c', .int .i64 next']) q1.1 1 (.int .i64 next') rfl
        go_roundw
        case rel => exact ⟨i + 1, ok', P', l', A', c', next', rfl, by go_num, ⟨by have h1 := HI.out; have h2 := HI5.out; omega⟩, ⟨(HT5.out.grown q1.2 HG5.out.1 HG5.out.2).grown q2.2 HG5.out.1 HG5.out.2⟩, HG5, ⟨q2.1⟩, ⟨below_mput (below_mput HB5.out q1.2 HE3.out HB5.out.size) q2.2 HE3.out (Nat.le_trans HB5.out.size q1.2.size)⟩⟩
        case measure => simp [intOf]; omega
    · have hl1 : l.length ≤ most := by have := HI.out; omega
      have s0 : wr.cell? ⟨g3, 0, none⟩ = some (.slice A l.length c) := (blk_cell HBk.out 0).trans rfl
      have s1 : wr.cell? ⟨g3, 1, none⟩ = some (.int .i64 next) := (blk_cell HBk.out 1).trans rfl
      have CT := Aside0.mk (show ∀ (n : Int) (W : World), Below wr.heap.size wr W → Calls Try.prog 14 #[.pointer (some ⟨p, 0, none⟩), .agg #[.slice A l.length c, .int .i64 next], .int .i64 n] W fun e w' => e = .returned (.bool true) ∧ Below W.heap.size W w' from
        fun n W hW => told_calls w.heap.size p ok A c l next n W (HT.out.below hW).heap (Kd.R_reads' (HT.out.below hW).row).2.2 (Kd.R_reads' (HT.out.below hW).row).2.1 hl1)
      go_wp2_with (go_at_call 14; (refine (CT.out _ _ ?cW).mono ?_); (case cW => first | exact HW5.out | exact Below.refl _ _); rintro e w5 ⟨rfl, hb⟩; have HW5 := Aside0.mk (below_step (by first | exact HW5.out | exact Below.refl _ _) hb); clear hb; have s0 : w5.cell? ⟨g3, 0, none⟩ = some (.slice A l.length c) := (blk_cell (blk_below HBk.out HW5.out) 0).trans rfl; have s1 : w5.cell? ⟨g3, 1, none⟩ = some (.int .i64 next) := (blk_cell (blk_below HBk.out HW5.out) 1).trans rfl)
      go_ret
      exact ⟨rfl, below_step HB.out HW5.out⟩
end Go.Proofs.Ytedkacknopcceaa.QHeap

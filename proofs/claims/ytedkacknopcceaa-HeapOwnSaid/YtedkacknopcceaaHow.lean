/- rotalaw05.HeapOwn: the list of numbers is new memory. Conditions: each theorem's own. -/
import Derived.Test.YtedkacknopcceaaHda
import Derived.Test.YtedkacknopcceaaHlv
set_option linter.unusedVariables false
set_option linter.unusedSimpArgs false
namespace Go.Proofs.Ytedkacknopcceaa.QHeap
open Go.RowKit Go.Proofs.Ytedkacknopcceaa.Ef Go.Proofs.Ytedkacknopcceaa.Mp Go.Proofs.Ytedkacknopcceaa.Hp Go.Proofs.YtedkacknopcceaaW.PrintWords Go.Proofs.YtedkacknopcceaaW.PrintLast Go.Proofs.YtedkacknopcceaaW.PrintMore

theorem below_across2 {n nb : Nat} {S : Nat → Prop} {w w9 W : World} (h : Below n w w9) (hF : Fr nb S w9 W) (hn : n ≤ nb) : Below n w W :=
  h.trans ⟨hF.b.os, hF.b.tape, hF.b.output, hF.b.size, fun i hi => hF.b.block i (by omega)⟩
theorem HP.nums_one (base p : Nat) (ok : Nat → Prop) (l : List S34) (next : Int) (d : List NI) (w : World) (H : HP w base p ok (l.map toN) next) (hl : l.length ≤ most) (hp : d.Perm (l.map toN)) (hs : Sorted d) :
    Calls Try.prog 19 #[.pointer (some ⟨p, 0, none⟩)] w fun e w' => ∃ v, e = .returned v ∧ Kd.R (Kd.int .i64) 3 w' w.heap.size (fun _ => True) v (d.map (·.num)) ∧ Below w.heap.size w w' := by
  refine (HP.nums base p ok (l.map toN) next w H (by rw [List.length_map]; unfold most at hl; omega)).mono ?_
  rintro e w4 ⟨v4, d4, rfl, hp4, hs4, hr4, hb4⟩
  obtain rfl := sorted_one hs hs4 (hp.trans hp4.symm) (once_perm hp H.once)
  exact ⟨_, rfl, hr4, hb4⟩
set_option maxHeartbeats 4000000 in
set_option maxRecDepth 100000 in
theorem own_calls (A0 : Option Addr) (c0 : Nat) (l0 : List S46) (w : World) (hr0 : Kd.C k46 w A0 l0.length l0) (hs0 : l0.length ≤ most) :
    Calls Try.prog 6 #[.slice A0 l0.length c0] w fun e w' => e = .returned (.bool true) ∧ Below w.heap.size w w' := by
  have HR0 := Aside0.mk hr0
  have hb0 : (l0.length : Int) ≤ 5864062014804 := by unfold most at hs0; omega
  have hu42 := Try.underlying42
  clear hr0
  go_enter Try.func6, Try.ntmps6
  go_wp2_with (first
    | (go_at_call 7; (refine (HP.new _).mono ?_); rintro e w1 ⟨p, rfl, hA, hb⟩; have HA1 := Aside0.mk hA; have HB1 := Aside0.mk hb; clear hA hb)
    | (go_at_call 8; (refine (lives_calls _).mono ?_); rintro e w2 ⟨rfl, hb⟩; have HA2 := Aside0.mk (HA1.out.below hb); have HB2 := Aside0.mk (below_step HB1.out hb); clear hb HA1 HB1)
    | ((with_reducible refine gate_dst (N := 4) rfl ?_); refine box_event ?hg (N := 4) ?hd (cs := #[.slice none 0 0, .int .i64 0]) (t := 42) ?hr ?_; (case hd => rfl); (case hg => rfl); (case hr => first | (go_simp; done) | (go_simp; rfl)); intro g3 hg3 w3 hbox hb; have HE3 := Aside0.mk (show w.heap.size ≤ g3 from by have := HB2.out.size; omega); have HN3 := Aside0.mk (show w2.heap.size ≤ g3 by omega); have HB3 := Aside0.mk (below_step HB2.out hb); have B3 := Aside0.mk hbox; have HA3 := Aside0.mk (HA2.out.below hb); clear hb hbox hg3 HB2)
    | ((with_reducible refine gate_store (t := 42) (p := 4) (v := .tmp 19) rfl ?_); refine step_store rfl rfl rfl B3.out rfl (u := .agg #[.slice none 0 0, .int .i64 0]) (seg := [.slice none 0 0, .int .i64 0]) rfl rfl (by kernel_rfl) (by simp [Value.oneCell']) (Nat.le_refl 2) (cur' := #[.slice none 0 0, .int .i64 0]) rfl ?_; intro w4 hb4 hg4 hs4; have HB4 := Aside0.mk (below_mput HB3.out hg4 HE3.out HB3.out.size); have B4 := Aside0.mk hb4; have HX := Aside0.mk (show ∀ k, _ → k ≠ g3 from fun k q e => by have := (HA2.out.bound k q).2; have := HN3.out; omega); have T4 := Aside0.mk (Two.new (HA3.out.kept (Kept.of_grown hg4 (Kept.refl _ (fun k => k = g3)) (fun k hk => by cases hk; exact .inl rfl)) HX.out)); clear hb4 hg4 hs4 HB3 B3 HA3 HA2))
  go_loopw [5, 6] (fun v5 v6 wr => ∃ (i : Nat) (ok P : Nat → Prop) (l : List S34) (A : Option Addr) (c : Nat) (next : Int), v5 = .bool true ∧ v6 = .int .i64 (i : Int) ∧ Aside0 (i ≤ l0.length ∧ l.length ≤ i ∧ next ≤ i) ∧ Aside0 (Two wr w.heap.size p ok P (.slice A l.length c) l next) ∧ Aside0 (¬ ok g3 ∧ ¬ P g3) ∧ Aside0 (wr.heap[g3]? = some (.cells #[.slice A l.length c, .int .i64 next] 42 (0, 0))) ∧ Aside0 (Below w.heap.size w wr)) (fun _ v6 _ => l0.length - (intOf v6).toNat)
  case atStart => exact ⟨0, _, _, [], none, 0, 0, rfl, rfl, ⟨Nat.zero_le _, Nat.le_refl _, Int.le_refl _⟩, T4, ⟨fun q => HX.out _ q rfl, id⟩, B4, HB4⟩
  case round =>
    clear T4 B4 HB4 HX
    obtain ⟨i, ok, P, l, A, c, next, rfl, rfl, HI, HT, HG, HBk, HB⟩ := hrel
    by_cases hlt : (i : Int) < (l0.length : Int)
    · obtain ⟨ad, x, rfl, hx0, hx1, hx2⟩ := at_act HR0.out (i : Int) (by omega) hlt
      replace hx0 := (HB.out.cell (World.block_lt_of_cell? w _ hx0)).trans hx0
      replace hx1 := (HB.out.cell (World.block_lt_of_cell? w _ hx1)).trans hx1
      replace hx2 := (HB.out.cell (World.block_lt_of_cell? w _ hx2)).trans hx2
      rw [Int.toNat_natCast] at hx0 hx1 hx2
      obtain ⟨y0, e0⟩ : ∃ y, x.f0 = y := ⟨_, rfl⟩
      obtain ⟨y1, e1⟩ : ∃ y, x.f1 = y := ⟨_, rfl⟩
      obtain ⟨y2, e2⟩ : ∃ y, x.f2 = y := ⟨_, rfl⟩
      rw [e0] at hx0
      rw [e1] at hx1
      rw [e2] at hx2
      clear e0 e1 e2
      have s0 : wr.cell? ⟨g3, 0, none⟩ = some (.slice A l.length c) := (blk_cell HBk.out 0).trans rfl
      have s1 : wr.cell? ⟨g3, 1, none⟩ = some (.int .i64 next) := (blk_cell HBk.out 1).trans rfl
      have hl1 : l.length < most := by have := HI.out; omega
      have hn1 : next ≤ (most : Nat) := by have := HI.out; omega
      go_wp2
      go_region_with (go_at_call 13; (refine (does_calls p ok P l A c next y0 y1 y2 w _ (pw_below_drewN HB.out _) (HT.out.below (pw_below_drewN (Below.refl _ _) _)) hl1 hn1).mono ?_); rintro e w5 ⟨ok', P', l', A', c', next', rfl, hT, h1, h2, h3, h4, hF⟩; have HT5 := Aside0.mk hT; have HB5 := Aside0.mk (hF.new (w := wr.drewN 1) (pw_below_drewN HB.out 1) (fun k q => q.elim (fun q => (HT.out.heap.bound k q).1) (fun q => (HT.out.bound k q).1))); have B5 := Aside0.mk (hF.blk (w := wr.drewN 1) HBk.out (fun q => q.elim HG.out.1 HG.out.2)); have HI5 := Aside0.mk (And.intro h1 h2); have HG5 := Aside0.mk (And.intro (show ¬ ok' g3 from fun q => (h3 g3 q).elim HG.out.1 (fun q => Nat.not_lt.2 q (blk_lt HBk.out))) (show ¬ P' g3 from fun q => (h4 g3 q).elim HG.out.2 (fun q => Nat.not_lt.2 q (blk_lt HBk.out)))); clear hT h1 h2 h3 h4 hF s0 s1 hx0 hx1 hx2; have s0 : w5.cell? ⟨g3, 0, none⟩ = some (.slice A l.length c) := (blk_cell B5.out 0).trans rfl; have s1 : w5.cell? ⟨g3, 1, none⟩ = some (.int .i64 next) := (blk_cell B5.out 1).trans rfl; have z0 := blk_frozen B5.out 0; have z1 := blk_frozen B5.out 1)
      all_goals
        go_wp2
        have q1 := set_step (cur' := #[.slice A' l'.length c', .int .i64 next]) B5.out 0 (.slice A' l'.length c') rfl
        have q2 := set_step (cur' := #[.slice A' l'.length c', .int .i64 next']) q1.1 1 (.int .i64 next') rfl
        go_roundw
        case rel => exact ⟨i + 1, ok', P', l', A', c', next', rfl, by go_num, ⟨by have h1 := HI.out; have h2 := HI5.out; omega⟩, ⟨(HT5.out.grown q1.2 HG5.out.1 HG5.out.2).grown q2.2 HG5.out.1 HG5.out.2⟩, HG5, ⟨q2.1⟩, ⟨below_mput (below_mput HB5.out q1.2 HE3.out HB5.out.size) q2.2 HE3.out (Nat.le_trans HB5.out.size q1.2.size)⟩⟩
        case measure => simp [intOf]; omega
    · have hl1 : l.length ≤ most := by have := HI.out; omega
      have s0 : wr.cell? ⟨g3, 0, none⟩ = some (.slice A l.length c) := (blk_cell HBk.out 0).trans rfl
      have s1 : wr.cell? ⟨g3, 1, none⟩ = some (.int .i64 next) := (blk_cell HBk.out 1).trans rfl
      obtain ⟨d, _, hdp, hds⟩ := numbers_eq l next hl1 (2 * l.length + 1) (by omega)
      have hdl : d.length ≤ 5864062014804 := by have := hdp.length_eq; rw [List.length_map] at this; unfold most at hl1; omega
      have hdi : (d.length : Int) ≤ 5864062014804 := by omega
      have CN := Aside0.mk (show ∀ (W : World), Below wr.heap.size wr W → Calls Try.prog 19 #[.pointer (some ⟨p, 0, none⟩)] W fun e w' => ∃ v, e = .returned v ∧ Kd.R (Kd.int .i64) 3 w' W.heap.size (fun _ => True) v (d.map (·.num)) ∧ Below W.heap.size W w' from
        fun W hW => HP.nums_one w.heap.size p ok l next d W (HT.out.below hW).heap hl1 hdp hds)
      have CZ := Aside0.mk (show ∀ (W : World), Below wr.heap.size wr W → Calls Try.prog 20 #[.agg #[.slice A l.length c, .int .i64 next]] W fun e w' => ∃ v, e = .returned v ∧ Kd.R (Kd.int .i64) 3 w' W.heap.size (fun _ => True) v (d.map (·.num)) ∧ Below W.heap.size W w' from
        fun W hW => refnums_same A c l next d W (Kd.R_reads' (HT.out.below hW).row).2.2 (Kd.R_reads' (HT.out.below hW).row).2.1 hl1 hdp hds HT.out.heap.once)
      have TK1 := Aside0.mk trivial
      have TK2 := Aside0.mk trivial
      have TK3 := Aside0.mk trivial
      have TK4 := Aside0.mk trivial
      clear hdp hds s0 s1
      go_wp2_with (first
        | (go_at_call 19; clear TK1; (refine (CN.out wr (Below.refl _ _)).mono ?_); rintro e w5 ⟨v5, rfl, hr, hb⟩; have HX5 := Aside0.mk (Kd.R_mono (Kd.R_bound hr) (ok' := fun k => wr.heap.size ≤ k ∧ k < w5.heap.size) (fun k hk => ⟨hk.2.1, hk.2.2.1⟩)); have HW5 := Aside0.mk hb; have HS5' := Aside0.mk (show wr.heap.size ≤ w5.heap.size from hb.size); clear hr hb)
        | (go_at_call 19; clear TK2; (refine (CN.out w5 HW5.out).mono ?_); rintro e w6 ⟨v6, rfl, hr, hb⟩; have HS56 := Aside0.mk (show w5.heap.size ≤ w6.heap.size from hb.size); have HY6 := Aside0.mk (Kd.R_mono (Kd.R_bound hr) (ok' := fun k => w5.heap.size ≤ k ∧ k < w6.heap.size) (fun k hk => ⟨hk.2.1, hk.2.2.1⟩)); have HX6 := Aside0.mk (Kd.R_below HX5.out hb); have HW6 := Aside0.mk (below_step HW5.out hb); have B6 := Aside0.mk (blk_below HBk.out (below_step HW5.out hb)); clear hr hb HX5; have s0 : w6.cell? ⟨g3, 0, none⟩ = some (.slice A l.length c) := (blk_cell B6.out 0).trans rfl; have s1 : w6.cell? ⟨g3, 1, none⟩ = some (.int .i64 next) := (blk_cell B6.out 1).trans rfl)
        | (go_at_call 20; (refine (CZ.out w6 HW6.out).mono ?_); rintro e w7 ⟨v7, rfl, hr, hb⟩; have HS67 := Aside0.mk (show w6.heap.size ≤ w7.heap.size from hb.size); have HZ7 := Aside0.mk (Kd.R_mono (Kd.R_bound hr) (ok' := fun k => w6.heap.size ≤ k ∧ k < w7.heap.size) (fun k hk => ⟨hk.2.1, hk.2.2.1⟩)); have HX7 := Aside0.mk (Kd.R_below HX6.out hb); have HY7 := Aside0.mk (Kd.R_below HY6.out hb); have HW7 := Aside0.mk (below_step HW6.out hb); clear hr hb HX6 HY6 s0 s1)
        | (go_at_call 21; clear TK3; (refine (same_rows HX7.out HZ7.out (by omega)).mono ?_); rintro e w8 ⟨rfl, hb⟩; have HS78 := Aside0.mk (show w7.heap.size ≤ w8.heap.size from hb.size); have HZ8 := Aside0.mk (Kd.R_below HZ7.out hb); have HX8 := Aside0.mk (Kd.R_below HX7.out hb); have HY8 := Aside0.mk (Kd.R_below HY7.out hb); have HW8 := Aside0.mk (below_step HW7.out hb); clear hb HX7 HY7 HZ7)
        | (go_at_call 21; clear TK4; (refine (same_rows HY8.out HZ8.out (by omega)).mono ?_); rintro e w9 ⟨rfl, hb⟩; have HS89 := Aside0.mk (show w8.heap.size ≤ w9.heap.size from hb.size); have HZ9 := Aside0.mk (Kd.R_below HZ8.out hb); have HX9 := Aside0.mk (Kd.R_below HX8.out hb); have HY9 := Aside0.mk (Kd.R_below HY8.out hb); have HW9 := Aside0.mk (below_step HW8.out hb); clear hb HX8 HY8 HZ8))
      obtain ⟨Ax, cx, ex⟩ := Kd.R_slice HX9.out
      obtain ⟨Ay, cy, ey⟩ := Kd.R_slice HY9.out
      obtain ⟨Az, cz, ez⟩ := Kd.R_slice HZ9.out
      rw [List.length_map] at ex ey ez
      subst ex
      subst ey
      subst ez
      have hS9 : wr.heap.size ≤ w9.heap.size := HW9.out.size
      have T9 := Aside0.mk (HT.out.below HW9.out)
      have B9 := Aside0.mk (blk_below HBk.out HW9.out)
      have HB9 := Aside0.mk (below_step HB.out HW9.out)
      have HSP := Aside0.mk (show ∀ k, ok k ∨ P k → k < wr.heap.size from fun k q => q.elim (fun q => (HT.out.heap.bound k q).2) (fun q => (HT.out.bound k q).2))
      have HS5 := Aside0.mk HS5'.out
      have HG3 := Aside0.mk (show g3 < wr.heap.size from blk_lt HBk.out)
      have HWB := Aside0.mk (show w.heap.size ≤ wr.heap.size from HB.out.size)
      obtain ⟨nb, hnb⟩ : ∃ n, wr.heap.size = n := ⟨_, rfl⟩
      rw [hnb] at hS9 HX9 HSP HS5 HG3 HWB
      clear hnb
      go_loopw [10] (fun v10 wq => ∃ (j : Nat) (xs : List Int), v10 = .int .i64 (j : Int) ∧ Aside0 (j ≤ d.length ∧ xs.length = d.length) ∧ Aside0 (Kd.R (Kd.int .i64) 3 wq nb (fun k => nb ≤ k ∧ k < w5.heap.size) (.slice Ax d.length cx) xs) ∧ Aside0 (Fr nb (fun k => nb ≤ k ∧ k < w5.heap.size) w9 wq)) (fun v10 _ => d.length - (intOf v10).toNat)
      case atStart => exact ⟨0, _, rfl, ⟨Nat.zero_le _, List.length_map _⟩, HX9, ⟨Fr.refl hS9 (fun k q => q.1)⟩⟩
      case round =>
        clear HX9
        obtain ⟨j, xs, rfl, HJ, HX, HF⟩ := hrel
        by_cases hlt : (j : Int) < (d.length : Int)
        · have hxl : xs.length = d.length := HJ.out.2
          obtain ⟨gx, cap, ex, hbg, hgl, cells0, hg0⟩ := Kd.R_form HX.out (by omega)
          simp only [Value.slice.injEq] at ex
          obtain ⟨rfl, _, rfl⟩ := ex
          obtain ⟨hz, hzf⟩ := Kd.R_celln 0 HX.out (j : Int) (by omega) (by omega)
          rw [Int.toNat_natCast] at hz hzf
          obtain ⟨x0, hx0⟩ : ∃ y, rdOf 0 xs (j : Int) = y := ⟨_, rfl⟩
          rw [hx0] at hz
          clear hx0
          have HXL := Aside0.mk hxl
          clear hxl
          clear hbg hgl hg0
          go_wp2
          obtain ⟨hrow, hgw⟩ := Kd.R_putg HX.out (j : Int) (-1 - (j : Int))
          rw [Int.toNat_natCast] at hrow hgw
          go_roundw
          case rel => exact ⟨j + 1, _, by go_num, ⟨by omega, by rw [List.length_set]; exact HXL.out⟩, ⟨hrow⟩, ⟨HF.out.grown hgw (.inl (HX.out.1 gx (by simp [Value.ownBlock])))⟩⟩
          case measure => simp [intOf]; omega
        · have HXL := Aside0.mk HJ.out.2
          have hSb := HF.out.sz
          have HX2 := Aside0.mk (Kd.R_mono HX.out (ok' := fun k => (nb ≤ k ∧ k < w5.heap.size) ∨ w9.heap.size ≤ k) (fun k q => .inl q))
          have HF2 := Aside0.mk (HF.out.mono (S2 := fun k => (nb ≤ k ∧ k < w5.heap.size) ∨ w9.heap.size ≤ k) (fun k q => .inl q) (fun k q => q.elim (fun q => q.1) (fun q => Nat.le_trans hSb q)))
          clear HX HF
          go_wp2
          go_loopw [7, 11] (fun v7 v11 wq => ∃ (j : Nat) (xs : List Int), v11 = .int .i64 (j : Int) ∧ Aside0 (j ≤ 16 ∧ xs.length = d.length + j) ∧ Aside0 (Kd.R (Kd.int .i64) 3 wq nb (fun k => (nb ≤ k ∧ k < w5.heap.size) ∨ w9.heap.size ≤ k) v7 xs) ∧ Aside0 (Fr nb (fun k => (nb ≤ k ∧ k < w5.heap.size) ∨ w9.heap.size ≤ k) w9 wq)) (fun _ v11 _ => 16 - (intOf v11).toNat)
          case atStart => exact ⟨0, xs, rfl, ⟨Nat.zero_le _, HXL.out⟩, HX2, HF2⟩
          case round =>
            clear HX2 HF2 HXL HJ
            obtain ⟨j, xs, rfl, HJ, HX, HF⟩ := hrel
            by_cases hlt : (j : Int) < 16
            · go_wp2_with ((with_reducible refine gate_builtin (b := .append) (xs := #[.tmp 69, .tmp 72]) rfl ?_); (at_builtin; refine Kd.R_append (Kd.int .i64) (w0 := w9) (W := _) nb rfl (.tmp 69) (.tmp 72) 23 3 (.int .i64 0) 8 rfl Try.underlying23 info3i rfl (by decide) (by omega) u7 xs (-100 - (j : Int)) [.int .i64 (-100 - (j : Int))] (fun k => (nb ≤ k ∧ k < w5.heap.size) ∨ w9.heap.size ≤ k) (fun _ => False) rfl rfl ?aP (fun _ hk => hk.elim) ?aF HX.out HF.out.b (Nat.le_trans HF.out.sz HF.out.size) ?aL ?_; (case aP => exact rfl); (case aF => exact fun k hk => .inr (Nat.le_trans HF.out.size hk)); (case aL => rw [HJ.out.2]; omega); intro v8 wn hrow hb9 hg9 hat; have HX8 := Aside0.mk hrow; have HF8 := Aside0.mk (HF.out.grownO hg9 (fun k hk => .inl (HX.out.1 k hk))); clear hrow hb9 hg9 hat))
              go_roundw
              case rel => exact ⟨j + 1, xs ++ [-100 - (j : Int)], by go_num, ⟨by omega, by rw [List.length_append, List.length_singleton, HJ.out.2]; omega⟩, HX8, HF8⟩
              case measure => simp [intOf]; omega
            · obtain ⟨Ax, cx, ex⟩ := Kd.R_slice HX.out
              have hj : j = 16 := by have := HJ.out.1; omega
              rw [HJ.out.2, hj] at ex
              subst ex
              have HYe := Aside0.mk (Kd.R_kept HY9.out HF.out.k (fun k q q2 => by have := HS67.out; have := HS78.out; have := HS89.out; rcases q2 with q2 | q2 <;> omega))
              have HZe := Aside0.mk (Kd.R_kept HZ9.out HF.out.k (fun k q q2 => by have := HS56.out; have := HS78.out; have := HS89.out; rcases q2 with q2 | q2 <;> omega))
              have Te := Aside0.mk (T9.out.kept HF.out.k (fun k q q2 => by have := HSP.out k (.inl q); have := HS5.out; rcases q2 with q2 | q2 <;> omega) (fun k q q2 => by have := HSP.out k (.inr q); rcases q2 with q2 | q2 <;> omega))
              have Be := Aside0.mk (blk_kept B9.out HF.out.k (fun q2 => by have := HG3.out; rcases q2 with q2 | q2 <;> omega))
              have HBe := Aside0.mk (show Below w.heap.size w _ from below_across2 HB9.out HF.out HWB.out)
              clear HY9 HZ9 T9 B9 HB9
              go_wp2_with (first
                | (go_at_call 21; (refine (same_rows HYe.out HZe.out (by omega)).mono ?_); rintro e wa ⟨rfl, hb⟩; have Ta := Aside0.mk (Te.out.below hb); have Ba := Aside0.mk (blk_below Be.out hb); have HBa := Aside0.mk (below_step HBe.out hb); clear hb; have s0 : wa.cell? ⟨g3, 0, none⟩ = some (.slice A l.length c) := (blk_cell Ba.out 0).trans rfl; have s1 : wa.cell? ⟨g3, 1, none⟩ = some (.int .i64 next) := (blk_cell Ba.out 1).trans rfl)
                | (go_at_call 14; (refine (told_calls w.heap.size p ok A c l next 0 wa Ta.out.heap (Kd.R_reads' Ta.out.row).2.2 (Kd.R_reads' Ta.out.row).2.1 hl1).mono ?_); rintro e wb ⟨rfl, hb⟩; have HBb := Aside0.mk (below_step HBa.out hb); clear hb))
              go_ret
              exact ⟨rfl, HBb.out⟩
end Go.Proofs.Ytedkacknopcceaa.QHeap

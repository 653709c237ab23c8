/- Due. Conditions: each theorem's own. -/
import Derived.Test.YtceopcfmhidjlaaTpa
import Derived.Test.YtceopcfmhidjlaaTa2
set_option linter.unusedVariables false
set_option linter.unusedSimpArgs false
namespace Go.Proofs.Ytceopcfmhidjlaa.PTimerPlays
open Go.RowKit Go.Proofs.Ytceopcfmhidjlaa.Ef Go.Proofs.Ytceopcfmhidjlaa.Mp Go.Proofs.Ytceopcfmhidjlaa.Hp Go.Proofs.YtceopcfmhidjlaaW.PrintWords Go.Proofs.YtceopcfmhidjlaaW.PrintLast Go.Proofs.YtceopcfmhidjlaaW.PrintMore

theorem row_box {w0 w w2 w3 : World} {base g : Nat} {v : Value} {l : List Tm} (h : kT.R 40 w base (fun k => w0.heap.size ≤ k) v l) (hb : Below w.heap.size w w2) (hg : w2.grownBy w3 (some g)) (hn : w.heap.size ≤ g) : kT.R 40 w3 base (fun k => w0.heap.size ≤ k) v l :=
  Kd.R_mono (Kd.R_grown (Kd.R_below (Kd.R_bound h) hb) hg (fun k hk e => by cases e; have := hk.2.2.1; omega)) (fun k q => q.1)
def lenV : Value → Nat | .slice _ n _ => n | _ => 0
def DueEnd (base p : Nat) (ok : Nat → Prop) (S : TS) (now : Int) (w : World) (e : Ending) (w' : World) : Prop := ∃ (ok' okL : Nat → Prop) (v : Value) (l : List Tm) (S1 : TS), e = .returned v ∧ Path now S l S1 ∧ (∀ n ∈ S1.hp, now < n.when) ∧ TP w' base p ok' (l.foldl (rearm now) S1) ∧ kT.R 40 w' base okL v l ∧ (∀ k, okL k → ¬ ok' k ∧ w.heap.size ≤ k) ∧ (∀ k, ok' k → ok k ∨ w.heap.size ≤ k) ∧ Fr base ok w w'
set_option maxHeartbeats 8000000 in
set_option maxRecDepth 100000 in
theorem due_calls (base p : Nat) (ok : Nat → Prop) (S : TS) (now : Int) (w : World) (H : TP w base p ok S) (hR : Rng S) (hn : S.next + 1024 ≤ 1000000000000000000) (hu0 : 0 ≤ now) (hu1 : now < 18446744073709551616) :
    Calls Try.prog 16 #[.pointer (some ⟨p, 0, none⟩), .int .u64 now] w (DueEnd base p ok S now w) := by
  have hu37 := Try.underlying37
  have HT := Aside0.mk H
  obtain ⟨P, v, ids, own, gs, rfl, rfl, hA, hG⟩ := H
  have HF0 := Aside0.mk (Fr.refl hA.le hA.fine.low)
  have HH := Aside0.mk hA
  have HG0 := Aside0.mk hG
  have HR0 := Aside0.mk hR
  have HFi := Aside0.mk hG.plain
  clear hA hG hR
  go_enter Try.func16, Try.ntmps16
  go_wp2_with (go_at_call 26; (refine (is_calls base P.p P.ok S _ HT.out).mono ?_); rintro e w1' ⟨rfl, rfl⟩)
  go_loopw [5] (fun v5 wr => ∃ (l : List Tm) (S1 : TS) (ids1 own1 : List (Int × Value)) (gs1 : List ((Int × Int) × Value)), Aside0 (Path now S l S1) ∧ Aside0 (TA wr base P v S.last S1.hp S.next S1.nv ids1 own1 gs1 ∧ Good S1 ids1 own1 gs1) ∧ Aside0 (kT.R 40 wr base (fun k => w.heap.size ≤ k) v5 l) ∧ Aside0 (Fr base P.ok w wr)) (fun v5 _ => S.hp.length + 1 - lenV v5)
  case atStart => exact ⟨[], S, ids, own, gs, ⟨.nil⟩, ⟨HH.out, HG0.out⟩, ⟨Kd.R_nil _ _ _ _ _⟩, HF0⟩
  case round =>
    obtain ⟨l, S1, ids1, own1, gs1, HPa, HAG, HL, HF⟩ := hrel
    have HA := Aside0.mk HAG.out.1
    have HG := Aside0.mk HAG.out.2
    clear HAG
    obtain ⟨A5, c5, rfl⟩ := Kd.R_slice HL.out
    have pq : wr.cell? ⟨P.p, 2, none⟩ = some (.pointer (some ⟨P.q, 0, none⟩)) := (blk_cell HA.out.blk 2).trans rfl
    by_cases hemp : S1.hp = []
    · have HM := Aside0.mk (show ∀ y ∈ S1.hp, now < y.when from fun y hy => by rw [hemp] at hy; cases hy)
      have HE0 : Aside0 (HP wr base P.q P.H [] S.next) := ⟨by have h := HA.out.heap; rw [hemp] at h; exact h⟩
      clear hemp
      go_wp2_with (first
        | (go_at_call 31; (refine (HP.top_none base P.q P.H S.next _ HE0.out).mono ?_); rintro e w2 ⟨rfl, hb⟩; have HA2 := Aside0.mk (HA.out.below hb); have HF2 := Aside0.mk (HF.out.below hb); have HL2 := Aside0.mk (Kd.R_below HL.out hb); clear hb pq)
        | ((with_reducible refine gate_dst (N := 8) rfl ?_); refine box_event ?hg (N := 8) ?hd (cs := #[.int .i64 0, .int .i64 0, .int .i64 0, .int .i64 0, .int .i64 0, .int .u64 0, .bool false, .int .u64 0]) (t := 40) ?hr ?_; (case hd => rfl); (case hg => rfl); (case hr => first | (go_simp; done) | (go_simp; rfl)); intro g8 hg8 w3 hbox hb; have HA3 := Aside0.mk (HA2.out.below hb); have HF3 := Aside0.mk (HF2.out.below hb); have B8 := Aside0.mk hbox; have HB3 := Aside0.mk hb; have HG8 := Aside0.mk (show w2.heap.size ≤ g8 by omega); have HN8 := Aside0.mk (show w.heap.size ≤ g8 from Nat.le_trans HF2.out.size (by omega)); clear hb hbox hg8)
        | ((with_reducible refine gate_store (t := 40) (p := 8) (v := .tmp 27) rfl ?_); refine step_store rfl rfl rfl B8.out rfl (u := .agg #[.int .i64 0, .int .i64 0, .int .i64 0, .int .i64 0, .int .i64 0, .int .u64 0, .bool false, .int .u64 0]) (seg := [.int .i64 0, .int .i64 0, .int .i64 0, .int .i64 0, .int .i64 0, .int .u64 0, .bool false, .int .u64 0]) rfl rfl (by kernel_rfl) (by simp [Value.oneCell']) (Nat.le_refl 8) (cur' := #[.int .i64 0, .int .i64 0, .int .i64 0, .int .i64 0, .int .i64 0, .int .u64 0, .bool false, .int .u64 0]) rfl ?_; intro w4 hb4 hg4 hs4; have HA4 := Aside0.mk (HA3.out.grown hg4 (HH.out.new HN8.out)); have HF4 := Aside0.mk (HF3.out.grown hg4 (.inr HN8.out)); have HL4 := Aside0.mk (row_box HL2.out HB3.out hg4 HG8.out); clear hb4 hg4 hs4 HA2 HF2 HL2 HA3 HF3 HB3 HG8 B8))
      have HSa := Aside0.mk (HPa.out.says HFi.out)
      have HT4 : Aside0 (TP w4 base P.p P.ok S1) := ⟨⟨P, v, ids1, own1, gs1, rfl, rfl, by rw [HSa.out.last, HSa.out.next]; exact HA4.out, HG.out⟩⟩
      obtain ⟨nb, hnb⟩ : ∃ k, w4.heap.size = k := ⟨_, rfl⟩
      have HL5 : Aside0 (kT.R 40 w4 base (fun k => w.heap.size ≤ k ∧ k < nb) (.slice A5 l.length c5) l) := ⟨by rw [← hnb]; exact Kd.R_mono (Kd.R_bound HL4.out) (fun k q => ⟨q.1, q.2.2.1⟩)⟩
      have HNb := Aside0.mk (show w.heap.size ≤ nb by rw [← hnb]; exact HF4.out.size)
      have HNw := Aside0.mk (show nb ≤ w4.heap.size by rw [hnb]; exact Nat.le_refl _)
      clear hnb
      go_loopw [73] (fun v73 wq => ∃ (i : Nat) (oki : Nat → Prop), v73 = .int .i64 (i : Int) ∧ Aside0 (i ≤ l.length) ∧ Aside0 (TP wq base P.p oki ((l.take i).foldl (rearm now) S1)) ∧ Aside0 (∀ k, oki k → P.ok k ∨ nb ≤ k) ∧ Aside0 (kT.R 40 wq base (fun k => w.heap.size ≤ k ∧ k < nb) (.slice A5 l.length c5) l) ∧ Aside0 (Fr base P.ok w wq) ∧ Aside0 (nb ≤ wq.heap.size)) (fun v73 _ => l.length + 1 - (intOf v73).toNat)
      case atStart => exact ⟨0, P.ok, rfl, ⟨Nat.zero_le _⟩, HT4, ⟨fun k q => .inl q⟩, HL5, HF4, HNw⟩
      case round =>
        obtain ⟨i, oki, rfl, HI, HTi, HKi, HLi, HFq, HNq⟩ := hrel
        have hll : l.length ≤ 1024 := by have h1 := HSa.out.perm.length_eq; have h2 := HFi.out.len; rw [List.length_append] at h1; omega
        by_cases hlt : (i : Int) < (l.length : Int)
        · have hin : i < l.length := by omega
          have hin0 : (0 : Int) ≤ (i : Int) := by omega
          obtain ⟨gl, cap, eA, -, -, -⟩ := Kd.R_form HLi.out (by omega)
          simp only [Value.slice.injEq] at eA
          obtain ⟨rfl, -, rfl⟩ := eA
          obtain ⟨y, hy⟩ : ∃ y, tn l i = y := ⟨_, rfl⟩
          have HY := Aside0.mk hy
          obtain ⟨hx0, hx1, hx2, hx3, hx4, hx5, hx6, hx7⟩ := at_rowT HLi.out i hin
          rw [hy] at hx0 hx1 hx2 hx3 hx4 hx5 hx6 hx7
          have hmem : y ∈ l := by rw [← hy]; unfold tn; rw [List.getElem?_eq_getElem hin]; exact List.getElem_mem hin
          have HRy := Aside0.mk (HR0.out y (HSa.out.perm.mem_iff.2 (List.mem_append.2 (.inl hmem))))
          have HDy := Aside0.mk (HSa.out.due y hmem)
          clear hy hmem
          by_cases h3 : y.f1 = 3
          · have h3' : (y.f1 == 3) = true := by simpa using h3
            have H3 := Aside0.mk h3
            have HFr := Aside0.mk (fold_fresh HFi.out HPa.out HG0.out.idl hin (by rw [HY.out]; exact h3))
            rw [HY.out] at HFr
            have HNx := Aside0.mk (show ((l.take i).foldl (rearm now) S1).next ≤ 1000000000000000000 from by have h1 := (fold_says now S1 (l.take i)).next.1; have h2 := HSa.out.next; rw [List.length_take] at h1; omega)
            clear h3
            go_wp2_with (first
              | ((with_reducible refine gate_dst (N := 15) rfl ?_); refine box_event ?hg (N := 15) ?hd (cs := #[.int .i64 0, .int .i64 0, .int .i64 0, .int .i64 0, .int .i64 0, .int .u64 0, .bool false, .int .u64 0]) (t := 40) ?hr ?_; (case hd => rfl); (case hg => rfl); (case hr => first | (go_simp; done) | (go_simp; rfl)); intro g15 hg15 w5 hbox hb; have HT5 := Aside0.mk (HTi.out.below hb); have HL5 := Aside0.mk (Kd.R_below HLi.out hb); have HF5 := Aside0.mk (HFq.out.below hb); have B5 := Aside0.mk hbox; have HG15 := Aside0.mk (show wr.heap.size ≤ g15 by omega); have HN5 := Aside0.mk (Nat.le_trans HNq.out hb.size); clear hb hbox hg15 hx0 hx1 hx2 hx3 hx4 hx5 hx6 hx7)
              | ((with_reducible refine gate_store (t := 40) (p := 15) (v := .tmp 76) rfl ?_); refine step_store rfl rfl rfl B5.out rfl (u := .agg #[.int .i64 y.f0, .int .i64 y.f1, .int .i64 y.f2.f0, .int .i64 y.f2.f1, .int .i64 y.f3, .int .u64 y.f4, .bool y.f5, .int .u64 y.f6]) (seg := [.int .i64 y.f0, .int .i64 y.f1, .int .i64 y.f2.f0, .int .i64 y.f2.f1, .int .i64 y.f3, .int .u64 y.f4, .bool y.f5, .int .u64 y.f6]) rfl rfl (by kernel_rfl) (by simp [Value.oneCell']) (Nat.le_refl 8) (cur' := #[.int .i64 y.f0, .int .i64 y.f1, .int .i64 y.f2.f0, .int .i64 y.f2.f1, .int .i64 y.f3, .int .u64 y.f4, .bool y.f5, .int .u64 y.f6]) rfl ?_; intro w6 hb6 hg6 hs6; have HT6 := Aside0.mk (HT5.out.grown hg6 (HTi.out.new HG15.out)); have HF6 := Aside0.mk (HF5.out.grown hg6 (.inr (Nat.le_trans HFq.out.size HG15.out))); have HL6 := Aside0.mk (Kd.R_grown HL5.out hg6 (fun k hk e => by cases e; exact absurd hk.2 (Nat.not_lt.2 (Nat.le_trans HNq.out HG15.out)))); have HN6 := Aside0.mk (Nat.le_trans HN5.out hg6.size); have B6 := Aside0.mk hb6; clear hb6 hg6 hs6 HT5 HF5 HL5 HN5 B5; have z0 : w6.cell? ⟨g15, 0, none⟩ = some (.int .i64 y.f0) := (blk_cell B6.out 0).trans rfl; have z1 : w6.cell? ⟨g15, 1, none⟩ = some (.int .i64 y.f1) := (blk_cell B6.out 1).trans rfl; have z2 : w6.cell? ⟨g15, 2, none⟩ = some (.int .i64 y.f2.f0) := (blk_cell B6.out 2).trans rfl; have z3 : w6.cell? ⟨g15, 3, none⟩ = some (.int .i64 y.f2.f1) := (blk_cell B6.out 3).trans rfl; have z4 : w6.cell? ⟨g15, 4, none⟩ = some (.int .i64 y.f3) := (blk_cell B6.out 4).trans rfl; have z5 : w6.cell? ⟨g15, 5, none⟩ = some (.int .u64 y.f4) := (blk_cell B6.out 5).trans rfl; have z6 : w6.cell? ⟨g15, 6, none⟩ = some (.bool y.f5) := (blk_cell B6.out 6).trans rfl; have z7 : w6.cell? ⟨g15, 7, none⟩ = some (.int .u64 y.f6) := (blk_cell B6.out 7).trans rfl)
              | (go_at_call 34; (refine (again_calls y now _ HRy.out.t0 HDy.out.1 hu1 (HRy.out.pp H3.out) HRy.out.p1).mono ?_); rintro e w7 ⟨rfl, hb⟩; have HT7 := Aside0.mk (HT6.out.below hb); have HL7 := Aside0.mk (Kd.R_below HL6.out hb); have HF7 := Aside0.mk (HF6.out.below hb); have HN7 := Aside0.mk (Nat.le_trans HN6.out hb.size); clear hb HT6 HL6 HF6 HN6 z0 z1 z2 z3 z4 z5 z6 z7)
              | (go_at_call 33; (refine (arm_calls base P.p oki _ (again now y) _ HT7.out HFr.out HNx.out).mono ?_); rintro e w8 ⟨ok8, rfl, h1, h2, h3⟩; have HT8 := Aside0.mk h1; have HK8 := Aside0.mk (show ∀ k, ok8 k → P.ok k ∨ nb ≤ k from fun k q => (h2 k q).elim (HKi.out k) (fun r => .inr (Nat.le_trans HN7.out r))); have HF8 := Aside0.mk (HF7.out.then_ h3 (Nat.le_refl _) (fun k q => (HKi.out k q).imp id (Nat.le_trans HNb.out))); have HL8 := Aside0.mk (Kd.R_kept HL7.out h3.k (fun k q r => (HKi.out k r).elim (fun r => absurd (HH.out.fine.bound k r) (Nat.not_lt.2 q.1)) (fun r => absurd q.2 (Nat.not_lt.2 r)))); have HN8 := Aside0.mk (Nat.le_trans HN7.out h3.size); clear h1 h2 h3 HT7 HL7 HF7 HN7))
            go_roundw
            case rel => exact ⟨i + 1, ok8, by go_num, ⟨by omega⟩, ⟨by rw [fold_step hin, HY.out, show rearm now _ y = _ from if_pos H3.out]; exact HT8.out⟩, HK8, HL8, HF8, HN8⟩
            case measure => simp [intOf]; omega
          · have h3' : (y.f1 == 3) = false := by simpa using h3
            have H3 := Aside0.mk h3
            clear h3
            go_wp2_with (first
              | ((with_reducible refine gate_dst (N := 15) rfl ?_); refine box_event ?hg (N := 15) ?hd (cs := #[.int .i64 0, .int .i64 0, .int .i64 0, .int .i64 0, .int .i64 0, .int .u64 0, .bool false, .int .u64 0]) (t := 40) ?hr ?_; (case hd => rfl); (case hg => rfl); (case hr => first | (go_simp; done) | (go_simp; rfl)); intro g15 hg15 w5 hbox hb; have HT5 := Aside0.mk (HTi.out.below hb); have HL5 := Aside0.mk (Kd.R_below HLi.out hb); have HF5 := Aside0.mk (HFq.out.below hb); have B5 := Aside0.mk hbox; have HG15 := Aside0.mk (show wr.heap.size ≤ g15 by omega); have HN5 := Aside0.mk (Nat.le_trans HNq.out hb.size); clear hb hbox hg15 hx0 hx1 hx2 hx3 hx4 hx5 hx6 hx7)
              | ((with_reducible refine gate_store (t := 40) (p := 15) (v := .tmp 76) rfl ?_); refine step_store rfl rfl rfl B5.out rfl (u := .agg #[.int .i64 y.f0, .int .i64 y.f1, .int .i64 y.f2.f0, .int .i64 y.f2.f1, .int .i64 y.f3, .int .u64 y.f4, .bool y.f5, .int .u64 y.f6]) (seg := [.int .i64 y.f0, .int .i64 y.f1, .int .i64 y.f2.f0, .int .i64 y.f2.f1, .int .i64 y.f3, .int .u64 y.f4, .bool y.f5, .int .u64 y.f6]) rfl rfl (by kernel_rfl) (by simp [Value.oneCell']) (Nat.le_refl 8) (cur' := #[.int .i64 y.f0, .int .i64 y.f1, .int .i64 y.f2.f0, .int .i64 y.f2.f1, .int .i64 y.f3, .int .u64 y.f4, .bool y.f5, .int .u64 y.f6]) rfl ?_; intro w6 hb6 hg6 hs6; have HT6 := Aside0.mk (HT5.out.grown hg6 (HTi.out.new HG15.out)); have HF6 := Aside0.mk (HF5.out.grown hg6 (.inr (Nat.le_trans HFq.out.size HG15.out))); have HL6 := Aside0.mk (Kd.R_grown HL5.out hg6 (fun k hk e => by cases e; exact absurd hk.2 (Nat.not_lt.2 (Nat.le_trans HNq.out HG15.out)))); have HN6 := Aside0.mk (Nat.le_trans HN5.out hg6.size); have B6 := Aside0.mk hb6; clear hb6 hg6 hs6 HT5 HF5 HL5 HN5 B5; have z0 : w6.cell? ⟨g15, 0, none⟩ = some (.int .i64 y.f0) := (blk_cell B6.out 0).trans rfl; have z1 : w6.cell? ⟨g15, 1, none⟩ = some (.int .i64 y.f1) := (blk_cell B6.out 1).trans rfl; have z2 : w6.cell? ⟨g15, 2, none⟩ = some (.int .i64 y.f2.f0) := (blk_cell B6.out 2).trans rfl; have z3 : w6.cell? ⟨g15, 3, none⟩ = some (.int .i64 y.f2.f1) := (blk_cell B6.out 3).trans rfl; have z4 : w6.cell? ⟨g15, 4, none⟩ = some (.int .i64 y.f3) := (blk_cell B6.out 4).trans rfl; have z5 : w6.cell? ⟨g15, 5, none⟩ = some (.int .u64 y.f4) := (blk_cell B6.out 5).trans rfl; have z6 : w6.cell? ⟨g15, 6, none⟩ = some (.bool y.f5) := (blk_cell B6.out 6).trans rfl; have z7 : w6.cell? ⟨g15, 7, none⟩ = some (.int .u64 y.f6) := (blk_cell B6.out 7).trans rfl))
            go_roundw
            case rel => exact ⟨i + 1, oki, by go_num, ⟨by omega⟩, ⟨by rw [fold_step hin, HY.out, show rearm now _ y = _ from if_neg H3.out]; exact HT6.out⟩, HKi, HL6, HF6, HN6⟩
            case measure => simp [intOf]; omega
        · have hi : i = l.length := by have := HI.out; omega
          have HT9 : Aside0 (TP wr base P.p oki (l.foldl (rearm now) S1)) := ⟨by have h := HTi.out; rw [hi, List.take_length] at h; exact h⟩
          go_wp2
          go_ret
          exact ⟨oki, _, _, l, S1, rfl, HPa.out, HM.out, HT9.out, HLi.out, fun k q => ⟨fun r => (HKi.out k r).elim (fun r => absurd (HH.out.fine.bound k r) (Nat.not_lt.2 q.1)) (fun r => absurd q.2 (Nat.not_lt.2 r)), q.1⟩, fun k q => (HKi.out k q).imp id (Nat.le_trans HNb.out), HFq.out⟩
    · obtain ⟨n, hle⟩ := HA.out.heap.least hemp
      have HLe := Aside0.mk hle
      obtain ⟨x, hx⟩ : ∃ x, n.val = x := ⟨_, rfl⟩
      have HX := Aside0.mk hx
      clear hle hx hemp
      by_cases hw : n.when ≤ now
      · have hw' : ¬ (now < n.when) := by omega
        have HW := Aside0.mk hw
        go_wp2_with (first
        | (go_at_call 31; (refine (HP.top base P.q P.H S1.hp S.next n _ HA.out.heap HLe.out).mono ?_); rintro e w2 ⟨rfl, hb⟩; have HA2 := Aside0.mk (HA.out.below hb); have HF2 := Aside0.mk (HF.out.below hb); have HL2 := Aside0.mk (Kd.R_below HL.out hb); clear hb pq)
        | ((with_reducible refine gate_dst (N := 8) rfl ?_); refine box_event ?hg (N := 8) ?hd (cs := #[.int .i64 0, .int .i64 0, .int .i64 0, .int .i64 0, .int .i64 0, .int .u64 0, .bool false, .int .u64 0]) (t := 40) ?hr ?_; (case hd => rfl); (case hg => rfl); (case hr => first | (go_simp; done) | (go_simp; rfl)); intro g8 hg8 w3 hbox hb; have HA3 := Aside0.mk (HA2.out.below hb); have HF3 := Aside0.mk (HF2.out.below hb); have B8 := Aside0.mk hbox; have HB3 := Aside0.mk hb; have HG8 := Aside0.mk (show w2.heap.size ≤ g8 by omega); have HN8 := Aside0.mk (show w.heap.size ≤ g8 from Nat.le_trans HF2.out.size (by omega)); clear hb hbox hg8)
        | ((with_reducible refine gate_store (t := 40) (p := 8) (v := .tmp 27) rfl ?_); refine step_store rfl rfl rfl B8.out rfl (u := .agg #[.int .i64 n.val.f0, .int .i64 n.val.f1, .int .i64 n.val.f2.f0, .int .i64 n.val.f2.f1, .int .i64 n.val.f3, .int .u64 n.val.f4, .bool n.val.f5, .int .u64 n.val.f6]) (seg := [.int .i64 n.val.f0, .int .i64 n.val.f1, .int .i64 n.val.f2.f0, .int .i64 n.val.f2.f1, .int .i64 n.val.f3, .int .u64 n.val.f4, .bool n.val.f5, .int .u64 n.val.f6]) rfl rfl (by kernel_rfl) (by simp [Value.oneCell']) (Nat.le_refl 8) (cur' := #[.int .i64 n.val.f0, .int .i64 n.val.f1, .int .i64 n.val.f2.f0, .int .i64 n.val.f2.f1, .int .i64 n.val.f3, .int .u64 n.val.f4, .bool n.val.f5, .int .u64 n.val.f6]) rfl ?_; intro w4 hb4 hg4 hs4; have HA4 := Aside0.mk (HA3.out.grown hg4 (HH.out.new HN8.out)); have HF4 := Aside0.mk (HF3.out.grown hg4 (.inr HN8.out)); have HL4 := Aside0.mk (row_box HL2.out HB3.out hg4 HG8.out); clear hb4 hg4 hs4 HA2 HF2 HL2 HA3 HF3 HB3 HG8 B8; have pq4 : w4.cell? ⟨P.p, 2, none⟩ = some (.pointer (some ⟨P.q, 0, none⟩)) := (blk_cell HA4.out.blk 2).trans rfl)
        | (go_at_call 32; (refine (HP.pop base P.q P.H S1.hp (S1.rm n.val.f0).hp S.next n _ HA4.out.heap HLe.out (rm_hp HG.out HLe.out.1).1 (by have := HG.out.len; simp [TS.all] at this; omega)).mono ?_); rintro e w5 ⟨rfl, hh, hF⟩; have HA5 := Aside0.mk (HA4.out.heaped hh hF.k (fun k q => .inl q)); have HF5 := Aside0.mk (HF4.out.then_ hF (Nat.le_refl _) (fun k q => .inl (.inr (.inr (.inr (.inr (.inl q))))))); have HL5 := Aside0.mk (Kd.R_kept HL4.out hF.k (fun k q r => absurd (HH.out.fine.bound k (.inr (.inr (.inr (.inr (.inl r)))))) (Nat.not_lt.2 q))); clear hh hF HA4 HF4 HL4 pq4)
        | ((with_reducible refine gate_dst (N := 12) rfl ?_); refine box_event ?hg (N := 12) ?hd (cs := #[.int .i64 0, .int .i64 0, .int .i64 0, .int .i64 0, .int .i64 0, .int .u64 0, .bool false, .int .u64 0]) (t := 40) ?hr ?_; (case hd => rfl); (case hg => rfl); (case hr => first | (go_simp; done) | (go_simp; rfl)); intro g12 hg12 w6 hbox hb; have HA6 := Aside0.mk (HA5.out.below hb); have HF6 := Aside0.mk (HF5.out.below hb); have B6 := Aside0.mk hbox; have HB6 := Aside0.mk hb; have HG12 := Aside0.mk (show w5.heap.size ≤ g12 by omega); have HN12 := Aside0.mk (show w.heap.size ≤ g12 from Nat.le_trans HF5.out.size (by omega)); have HNo12 := Aside0.mk (HH.out.new HN12.out); clear hb hbox hg12)
        | ((with_reducible refine gate_store (t := 40) (p := 12) (v := .tmp 44) rfl ?_); refine step_store rfl rfl rfl B6.out rfl (u := .agg #[.int .i64 n.val.f0, .int .i64 n.val.f1, .int .i64 n.val.f2.f0, .int .i64 n.val.f2.f1, .int .i64 n.val.f3, .int .u64 n.val.f4, .bool n.val.f5, .int .u64 n.val.f6]) (seg := [.int .i64 n.val.f0, .int .i64 n.val.f1, .int .i64 n.val.f2.f0, .int .i64 n.val.f2.f1, .int .i64 n.val.f3, .int .u64 n.val.f4, .bool n.val.f5, .int .u64 n.val.f6]) rfl rfl (by kernel_rfl) (by simp [Value.oneCell']) (Nat.le_refl 8) (cur' := #[.int .i64 n.val.f0, .int .i64 n.val.f1, .int .i64 n.val.f2.f0, .int .i64 n.val.f2.f1, .int .i64 n.val.f3, .int .u64 n.val.f4, .bool n.val.f5, .int .u64 n.val.f6]) rfl ?_; intro w7 hb7 hg7 hs7; have HA7 := Aside0.mk (HA6.out.grown hg7 HNo12.out); have HF7 := Aside0.mk (HF6.out.grown hg7 (.inr HN12.out)); have HL7 := Aside0.mk (row_box HL5.out HB6.out hg7 HG12.out); have B7 := Aside0.mk hb7; clear hb7 hg7 hs7 HA5 HF5 HL5 HA6 HF6 HB6 HG12 B6))
        rw [HX.out] at B7
        have HLn := Aside0.mk (HPa.out.says HFi.out)
        have pi : w7.cell? ⟨P.p, 4, none⟩ = some (.map (some P.bi)) := (blk_cell HA7.out.blk 4).trans rfl
        have x0 : w7.cell? ⟨g12, 0, none⟩ = some (.int .i64 x.f0) := (blk_cell B7.out 0).trans rfl
        go_still_tail 6, (by kernel_rfl)
        change wpList _ _ _ _ _ w7.drew
        have HA7d := Aside0.mk HA7.out.drew
        have HF7d := Aside0.mk HF7.out.drew
        have HL7d : Aside0 (kT.R 40 w7.drew base (fun k => w.heap.size ≤ k) (.slice A5 l.length c5) l) := ⟨HL7.out⟩
        have B7d : Aside0 (w7.drew.heap[g12]? = some (.cells #[.int .i64 x.f0, .int .i64 x.f1, .int .i64 x.f2.f0, .int .i64 x.f2.f1, .int .i64 x.f3, .int .u64 x.f4, .bool x.f5, .int .u64 x.f6] 40 (0, 0))) := ⟨B7.out⟩
        clear pi x0 HA7 HF7 HL7 B7
        generalize w7.drew = w7d at *
        go_wp2_with (first | ((with_reducible refine gate_del (args := #[.tmp 49, .tmp 51]) rfl ?_); refine step_delS keyL Try.underlying54 rfl rfl HA7d.out.mi x.f0 rfl rfl ?_; intro w10 hm hgr hs; have HA10 := Aside0.mk (HA7d.out.ided hm hgr); have HF10 := Aside0.mk (HF7d.out.grown hgr (.inl (.inr (.inl rfl)))); have HL10 := Aside0.mk (Kd.R_kept HL7d.out (grown_kept hgr) (fun k q e => by cases e; exact absurd (HH.out.fine.bound _ (.inr (.inl rfl))) (Nat.not_lt.2 q))); have B10 := Aside0.mk (blk_grown B7d.out hgr (fun e => HNo12.out (by have e2 := Option.some.inj e; rw [e2]; exact (.inr (.inl rfl))))); clear hm hgr hs HA7d HF7d HL7d B7d))

        by_cases hk : x.f1 = 1
        · have hk' : (x.f1 == 1) = true := by simpa using hk
          have HK := Aside0.mk hk
          clear hk
          have po : w10.cell? ⟨P.p, 5, none⟩ = some (.map (some P.bo)) := (blk_cell HA10.out.blk 5).trans rfl
          have x0 : w10.cell? ⟨g12, 0, none⟩ = some (.int .i64 x.f0) := (blk_cell B10.out 0).trans rfl
          go_still_tail 6, (by kernel_rfl)
          change wpList _ _ _ _ _ w10.drew
          have HA10d := Aside0.mk HA10.out.drew
          have HF10d := Aside0.mk HF10.out.drew
          have HL10d : Aside0 (kT.R 40 w10.drew base (fun k => w.heap.size ≤ k) (.slice A5 l.length c5) l) := ⟨HL10.out⟩
          have B10d : Aside0 (w10.drew.heap[g12]? = some (.cells #[.int .i64 x.f0, .int .i64 x.f1, .int .i64 x.f2.f0, .int .i64 x.f2.f1, .int .i64 x.f3, .int .u64 x.f4, .bool x.f5, .int .u64 x.f6] 40 (0, 0))) := ⟨B10.out⟩
          clear po x0 HA10 HF10 HL10 B10
          generalize w10.drew = w10d at *
          go_wp2_with (first | ((with_reducible refine gate_del (args := #[.tmp 55, .tmp 57]) rfl ?_); refine step_delS keyL Try.underlying55 rfl rfl HA10d.out.mo x.f0 rfl rfl ?_; intro w13 hm hgr hs; have HA13 := Aside0.mk (HA10d.out.owned hm hgr); have HF13 := Aside0.mk (HF10d.out.grown hgr (.inl (.inr (.inr (.inl rfl))))); have HL13 := Aside0.mk (Kd.R_kept HL10d.out (grown_kept hgr) (fun k q e => by cases e; exact absurd (HH.out.fine.bound _ (.inr (.inr (.inl rfl)))) (Nat.not_lt.2 q))); have B13 := Aside0.mk (blk_grown B10d.out hgr (fun e => HNo12.out (by have e2 := Option.some.inj e; rw [e2]; exact (.inr (.inr (.inl rfl)))))); clear hm hgr hs HA10d HF10d HL10d B10d; have x0 : w13.cell? ⟨g12, 0, none⟩ = some (.int .i64 x.f0) := (blk_cell B13.out 0).trans rfl; have x1 : w13.cell? ⟨g12, 1, none⟩ = some (.int .i64 x.f1) := (blk_cell B13.out 1).trans rfl; have x2 : w13.cell? ⟨g12, 2, none⟩ = some (.int .i64 x.f2.f0) := (blk_cell B13.out 2).trans rfl; have x3 : w13.cell? ⟨g12, 3, none⟩ = some (.int .i64 x.f2.f1) := (blk_cell B13.out 3).trans rfl; have x4 : w13.cell? ⟨g12, 4, none⟩ = some (.int .i64 x.f3) := (blk_cell B13.out 4).trans rfl; have x5 : w13.cell? ⟨g12, 5, none⟩ = some (.int .u64 x.f4) := (blk_cell B13.out 5).trans rfl; have x6 : w13.cell? ⟨g12, 6, none⟩ = some (.bool x.f5) := (blk_cell B13.out 6).trans rfl; have x7 : w13.cell? ⟨g12, 7, none⟩ = some (.int .u64 x.f6) := (blk_cell B13.out 7).trans rfl))
          clear x0 x1 x2 x3 x4 x5 x6 x7
          have pg : w13.cell? ⟨P.p, 6, none⟩ = some (.map (some P.bg)) := (blk_cell HA13.out.blk 6).trans rfl
          have x2 : w13.cell? ⟨g12, 2, none⟩ = some (.int .i64 x.f2.f0) := (blk_cell B13.out 2).trans rfl
          have x3 : w13.cell? ⟨g12, 3, none⟩ = some (.int .i64 x.f2.f1) := (blk_cell B13.out 3).trans rfl
          go_still_tail 6, (by kernel_rfl)
          change wpList _ _ _ _ _ w13.drew
          have HA13d := Aside0.mk HA13.out.drew
          have HF13d := Aside0.mk HF13.out.drew
          have HL13d : Aside0 (kT.R 40 w13.drew base (fun k => w.heap.size ≤ k) (.slice A5 l.length c5) l) := ⟨HL13.out⟩
          have B13d : Aside0 (w13.drew.heap[g12]? = some (.cells #[.int .i64 x.f0, .int .i64 x.f1, .int .i64 x.f2.f0, .int .i64 x.f2.f1, .int .i64 x.f3, .int .u64 x.f4, .bool x.f5, .int .u64 x.f6] 40 (0, 0))) := ⟨B13.out⟩
          clear pg x2 x3 HA13 HF13 HL13 B13
          generalize w13.drew = w13d at *
          go_wp2_with (first | ((with_reducible refine gate_del (args := #[.tmp 64, .tmp 66]) rfl ?_); refine step_del keyG Try.underlying56 rfl rfl HA13d.out.mg (x.f2.f0, x.f2.f1) rfl rfl ?_; intro w16 hm hgr hs; have HA16 := Aside0.mk (HA13d.out.gsed hm hgr); have HF16 := Aside0.mk (HF13d.out.grown hgr (.inl (.inr (.inr (.inr (.inl rfl)))))); have HL16 := Aside0.mk (Kd.R_kept HL13d.out (grown_kept hgr) (fun k q e => by cases e; exact absurd (HH.out.fine.bound _ (.inr (.inr (.inr (.inl rfl))))) (Nat.not_lt.2 q))); have B16 := Aside0.mk (blk_grown B13d.out hgr (fun e => HNo12.out (by have e2 := Option.some.inj e; rw [e2]; exact (.inr (.inr (.inr (.inl rfl))))))); clear hm hgr hs HA13d HF13d HL13d B13d; have x0 : w16.cell? ⟨g12, 0, none⟩ = some (.int .i64 x.f0) := (blk_cell B16.out 0).trans rfl; have x1 : w16.cell? ⟨g12, 1, none⟩ = some (.int .i64 x.f1) := (blk_cell B16.out 1).trans rfl; have x2 : w16.cell? ⟨g12, 2, none⟩ = some (.int .i64 x.f2.f0) := (blk_cell B16.out 2).trans rfl; have x3 : w16.cell? ⟨g12, 3, none⟩ = some (.int .i64 x.f2.f1) := (blk_cell B16.out 3).trans rfl; have x4 : w16.cell? ⟨g12, 4, none⟩ = some (.int .i64 x.f3) := (blk_cell B16.out 4).trans rfl; have x5 : w16.cell? ⟨g12, 5, none⟩ = some (.int .u64 x.f4) := (blk_cell B16.out 5).trans rfl; have x6 : w16.cell? ⟨g12, 6, none⟩ = some (.bool x.f5) := (blk_cell B16.out 6).trans rfl; have x7 : w16.cell? ⟨g12, 7, none⟩ = some (.int .u64 x.f6) := (blk_cell B16.out 7).trans rfl) | ((with_reducible refine gate_builtin (b := .append) (xs := #[.tmp 67, .tmp 69]) rfl ?_); (at_builtin; refine Kd.R_append kT (w0 := w) (W := _) base rfl (.tmp 67) (.tmp 69) 37 40 (.agg #[.int .i64 0, .int .i64 0, .int .i64 0, .int .i64 0, .int .i64 0, .int .u64 0, .bool false, .int .u64 0]) 64 rfl Try.underlying37 infoT rfl (by decide) (by omega) (.slice A5 l.length c5) l (x : Tm) [.int .i64 x.f0, .int .i64 x.f1, .int .i64 x.f2.f0, .int .i64 x.f2.f1, .int .i64 x.f3, .int .u64 x.f4, .bool x.f5, .int .u64 x.f6] (fun k => w.heap.size ≤ k) (fun _ => False) rfl rfl ?aP (fun _ hk => hk.elim) ?aF HL16.out HF16.out.b (Nat.le_trans HF16.out.sz HF16.out.size) ?aL ?_; (case aP => exact k40_mkM _ _ _ _); (case aF => exact fun k hk => Nat.le_trans HF16.out.size hk); (case aL => have h1 := HLn.out.perm.length_eq; have h2 := HFi.out.len; rw [List.length_append] at h1; omega); intro v8 w9 hrow hb9 hg9 hat; have HL9 := Aside0.mk hrow; have HA9 := Aside0.mk (HA16.out.kept (Kept.of_grown hg9 (Kept.refl _ (fun k => w.heap.size ≤ k)) (fun k e => .inl (HL16.out.1 k e))) (fun k q r => absurd (HH.out.fine.bound k q) (Nat.not_lt.2 r))); have HF9 := Aside0.mk (HF16.out.grownO hg9 (fun k hk => .inr (HL16.out.1 k hk))); clear hrow hb9 hg9 hat x0 x1 x2 x3 x4 x5 x6 x7)))
          obtain ⟨A9, c9, e9⟩ := Kd.R_slice HL9.out
          subst e9
          have hx := HX.out
          have hA9 := HA9.out
          have hG9 := HG.out.rm (x := n.val) (List.mem_append.2 (.inl (List.mem_map.2 ⟨n, HLe.out.1, rfl⟩)))
          have h2 := (rm_hp HG.out HLe.out.1).2
          have hPa : Path now S (l ++ [n.val]) (S1.rm n.val.f0) := .snoc HPa.out HLe.out HW.out
          have hlen : l.length < S.hp.length := by
            have h1 := HLn.out.perm.length_eq
            have h3 := HLn.out.nv
            have h4 := List.length_pos_of_mem HLe.out.1
            unfold TS.all at h1
            rw [h3] at h1
            simp at h1
            omega
          rw [← h2] at hA9
          rw [hx] at hA9 hG9 hPa
          rw [show gsD x gs1 = _ from if_pos HK.out] at hG9
          refine ⟨⟨l ++ [x], S1.rm x.f0, _, _, _, ⟨hPa⟩, ⟨hA9, hG9⟩, HL9, HF9⟩, ?_⟩
          show S.hp.length + 1 - (l ++ [x]).length < S.hp.length + 1 - l.length
          rw [List.length_append, List.length_singleton]
          omega
        · have hk' : (x.f1 == 1) = false := by simpa using hk
          have HK := Aside0.mk hk
          clear hk
          have po : w10.cell? ⟨P.p, 5, none⟩ = some (.map (some P.bo)) := (blk_cell HA10.out.blk 5).trans rfl
          have x0 : w10.cell? ⟨g12, 0, none⟩ = some (.int .i64 x.f0) := (blk_cell B10.out 0).trans rfl
          go_still_tail 6, (by kernel_rfl)
          change wpList _ _ _ _ _ w10.drew
          have HA10d := Aside0.mk HA10.out.drew
          have HF10d := Aside0.mk HF10.out.drew
          have HL10d : Aside0 (kT.R 40 w10.drew base (fun k => w.heap.size ≤ k) (.slice A5 l.length c5) l) := ⟨HL10.out⟩
          have B10d : Aside0 (w10.drew.heap[g12]? = some (.cells #[.int .i64 x.f0, .int .i64 x.f1, .int .i64 x.f2.f0, .int .i64 x.f2.f1, .int .i64 x.f3, .int .u64 x.f4, .bool x.f5, .int .u64 x.f6] 40 (0, 0))) := ⟨B10.out⟩
          clear po x0 HA10 HF10 HL10 B10
          generalize w10.drew = w10d at *
          go_wp2_with (first | ((with_reducible refine gate_del (args := #[.tmp 55, .tmp 57]) rfl ?_); refine step_delS keyL Try.underlying55 rfl rfl HA10d.out.mo x.f0 rfl rfl ?_; intro w13 hm hgr hs; have HA13 := Aside0.mk (HA10d.out.owned hm hgr); have HF13 := Aside0.mk (HF10d.out.grown hgr (.inl (.inr (.inr (.inl rfl))))); have HL13 := Aside0.mk (Kd.R_kept HL10d.out (grown_kept hgr) (fun k q e => by cases e; exact absurd (HH.out.fine.bound _ (.inr (.inr (.inl rfl)))) (Nat.not_lt.2 q))); have B13 := Aside0.mk (blk_grown B10d.out hgr (fun e => HNo12.out (by have e2 := Option.some.inj e; rw [e2]; exact (.inr (.inr (.inl rfl)))))); clear hm hgr hs HA10d HF10d HL10d B10d; have x0 : w13.cell? ⟨g12, 0, none⟩ = some (.int .i64 x.f0) := (blk_cell B13.out 0).trans rfl; have x1 : w13.cell? ⟨g12, 1, none⟩ = some (.int .i64 x.f1) := (blk_cell B13.out 1).trans rfl; have x2 : w13.cell? ⟨g12, 2, none⟩ = some (.int .i64 x.f2.f0) := (blk_cell B13.out 2).trans rfl; have x3 : w13.cell? ⟨g12, 3, none⟩ = some (.int .i64 x.f2.f1) := (blk_cell B13.out 3).trans rfl; have x4 : w13.cell? ⟨g12, 4, none⟩ = some (.int .i64 x.f3) := (blk_cell B13.out 4).trans rfl; have x5 : w13.cell? ⟨g12, 5, none⟩ = some (.int .u64 x.f4) := (blk_cell B13.out 5).trans rfl; have x6 : w13.cell? ⟨g12, 6, none⟩ = some (.bool x.f5) := (blk_cell B13.out 6).trans rfl; have x7 : w13.cell? ⟨g12, 7, none⟩ = some (.int .u64 x.f6) := (blk_cell B13.out 7).trans rfl) | ((with_reducible refine gate_builtin (b := .append) (xs := #[.tmp 67, .tmp 69]) rfl ?_); (at_builtin; refine Kd.R_append kT (w0 := w) (W := _) base rfl (.tmp 67) (.tmp 69) 37 40 (.agg #[.int .i64 0, .int .i64 0, .int .i64 0, .int .i64 0, .int .i64 0, .int .u64 0, .bool false, .int .u64 0]) 64 rfl Try.underlying37 infoT rfl (by decide) (by omega) (.slice A5 l.length c5) l (x : Tm) [.int .i64 x.f0, .int .i64 x.f1, .int .i64 x.f2.f0, .int .i64 x.f2.f1, .int .i64 x.f3, .int .u64 x.f4, .bool x.f5, .int .u64 x.f6] (fun k => w.heap.size ≤ k) (fun _ => False) rfl rfl ?aP (fun _ hk => hk.elim) ?aF HL13.out HF13.out.b (Nat.le_trans HF13.out.sz HF13.out.size) ?aL ?_; (case aP => exact k40_mkM _ _ _ _); (case aF => exact fun k hk => Nat.le_trans HF13.out.size hk); (case aL => have h1 := HLn.out.perm.length_eq; have h2 := HFi.out.len; rw [List.length_append] at h1; omega); intro v8 w9 hrow hb9 hg9 hat; have HL9 := Aside0.mk hrow; have HA9 := Aside0.mk (HA13.out.kept (Kept.of_grown hg9 (Kept.refl _ (fun k => w.heap.size ≤ k)) (fun k e => .inl (HL13.out.1 k e))) (fun k q r => absurd (HH.out.fine.bound k q) (Nat.not_lt.2 r))); have HF9 := Aside0.mk (HF13.out.grownO hg9 (fun k hk => .inr (HL13.out.1 k hk))); clear hrow hb9 hg9 hat x0 x1 x2 x3 x4 x5 x6 x7)))
          obtain ⟨A9, c9, e9⟩ := Kd.R_slice HL9.out
          subst e9
          have hx := HX.out
          have hA9 := HA9.out
          have hG9 := HG.out.rm (x := n.val) (List.mem_append.2 (.inl (List.mem_map.2 ⟨n, HLe.out.1, rfl⟩)))
          have h2 := (rm_hp HG.out HLe.out.1).2
          have hPa : Path now S (l ++ [n.val]) (S1.rm n.val.f0) := .snoc HPa.out HLe.out HW.out
          have hlen : l.length < S.hp.length := by
            have h1 := HLn.out.perm.length_eq
            have h3 := HLn.out.nv
            have h4 := List.length_pos_of_mem HLe.out.1
            unfold TS.all at h1
            rw [h3] at h1
            simp at h1
            omega
          rw [← h2] at hA9
          rw [hx] at hA9 hG9 hPa
          rw [show gsD x gs1 = _ from if_neg HK.out] at hG9
          refine ⟨⟨l ++ [x], S1.rm x.f0, _, _, _, ⟨hPa⟩, ⟨hA9, hG9⟩, HL9, HF9⟩, ?_⟩
          show S.hp.length + 1 - (l ++ [x]).length < S.hp.length + 1 - l.length
          rw [List.length_append, List.length_singleton]
          omega
      · have hw' : now < n.when := by omega
        have HM := Aside0.mk (show ∀ y ∈ S1.hp, now < y.when from fun y hy => by have := HLe.out.2 y hy; unfold lt at this; omega)
        clear hw
        go_wp2_with (first
        | (go_at_call 31; (refine (HP.top base P.q P.H S1.hp S.next n _ HA.out.heap HLe.out).mono ?_); rintro e w2 ⟨rfl, hb⟩; have HA2 := Aside0.mk (HA.out.below hb); have HF2 := Aside0.mk (HF.out.below hb); have HL2 := Aside0.mk (Kd.R_below HL.out hb); clear hb pq)
        | ((with_reducible refine gate_dst (N := 8) rfl ?_); refine box_event ?hg (N := 8) ?hd (cs := #[.int .i64 0, .int .i64 0, .int .i64 0, .int .i64 0, .int .i64 0, .int .u64 0, .bool false, .int .u64 0]) (t := 40) ?hr ?_; (case hd => rfl); (case hg => rfl); (case hr => first | (go_simp; done) | (go_simp; rfl)); intro g8 hg8 w3 hbox hb; have HA3 := Aside0.mk (HA2.out.below hb); have HF3 := Aside0.mk (HF2.out.below hb); have B8 := Aside0.mk hbox; have HB3 := Aside0.mk hb; have HG8 := Aside0.mk (show w2.heap.size ≤ g8 by omega); have HN8 := Aside0.mk (show w.heap.size ≤ g8 from Nat.le_trans HF2.out.size (by omega)); clear hb hbox hg8)
        | ((with_reducible refine gate_store (t := 40) (p := 8) (v := .tmp 27) rfl ?_); refine step_store rfl rfl rfl B8.out rfl (u := .agg #[.int .i64 n.val.f0, .int .i64 n.val.f1, .int .i64 n.val.f2.f0, .int .i64 n.val.f2.f1, .int .i64 n.val.f3, .int .u64 n.val.f4, .bool n.val.f5, .int .u64 n.val.f6]) (seg := [.int .i64 n.val.f0, .int .i64 n.val.f1, .int .i64 n.val.f2.f0, .int .i64 n.val.f2.f1, .int .i64 n.val.f3, .int .u64 n.val.f4, .bool n.val.f5, .int .u64 n.val.f6]) rfl rfl (by kernel_rfl) (by simp [Value.oneCell']) (Nat.le_refl 8) (cur' := #[.int .i64 n.val.f0, .int .i64 n.val.f1, .int .i64 n.val.f2.f0, .int .i64 n.val.f2.f1, .int .i64 n.val.f3, .int .u64 n.val.f4, .bool n.val.f5, .int .u64 n.val.f6]) rfl ?_; intro w4 hb4 hg4 hs4; have HA4 := Aside0.mk (HA3.out.grown hg4 (HH.out.new HN8.out)); have HF4 := Aside0.mk (HF3.out.grown hg4 (.inr HN8.out)); have HL4 := Aside0.mk (row_box HL2.out HB3.out hg4 HG8.out); clear hb4 hg4 hs4 HA2 HF2 HL2 HA3 HF3 HB3 HG8 B8))
        have HSa := Aside0.mk (HPa.out.says HFi.out)
        have HT4 : Aside0 (TP w4 base P.p P.ok S1) := ⟨⟨P, v, ids1, own1, gs1, rfl, rfl, by rw [HSa.out.last, HSa.out.next]; exact HA4.out, HG.out⟩⟩
        obtain ⟨nb, hnb⟩ : ∃ k, w4.heap.size = k := ⟨_, rfl⟩
        have HL5 : Aside0 (kT.R 40 w4 base (fun k => w.heap.size ≤ k ∧ k < nb) (.slice A5 l.length c5) l) := ⟨by rw [← hnb]; exact Kd.R_mono (Kd.R_bound HL4.out) (fun k q => ⟨q.1, q.2.2.1⟩)⟩
        have HNb := Aside0.mk (show w.heap.size ≤ nb by rw [← hnb]; exact HF4.out.size)
        have HNw := Aside0.mk (show nb ≤ w4.heap.size by rw [hnb]; exact Nat.le_refl _)
        clear hnb
        go_loopw [73] (fun v73 wq => ∃ (i : Nat) (oki : Nat → Prop), v73 = .int .i64 (i : Int) ∧ Aside0 (i ≤ l.length) ∧ Aside0 (TP wq base P.p oki ((l.take i).foldl (rearm now) S1)) ∧ Aside0 (∀ k, oki k → P.ok k ∨ nb ≤ k) ∧ Aside0 (kT.R 40 wq base (fun k => w.heap.size ≤ k ∧ k < nb) (.slice A5 l.length c5) l) ∧ Aside0 (Fr base P.ok w wq) ∧ Aside0 (nb ≤ wq.heap.size)) (fun v73 _ => l.length + 1 - (intOf v73).toNat)
        case atStart => exact ⟨0, P.ok, rfl, ⟨Nat.zero_le _⟩, HT4, ⟨fun k q => .inl q⟩, HL5, HF4, HNw⟩
        case round =>
          obtain ⟨i, oki, rfl, HI, HTi, HKi, HLi, HFq, HNq⟩ := hrel
          have hll : l.length ≤ 1024 := by have h1 := HSa.out.perm.length_eq; have h2 := HFi.out.len; rw [List.length_append] at h1; omega
          by_cases hlt : (i : Int) < (l.length : Int)
          · have hin : i < l.length := by omega
            have hin0 : (0 : Int) ≤ (i : Int) := by omega
            obtain ⟨gl, cap, eA, -, -, -⟩ := Kd.R_form HLi.out (by omega)
            simp only [Value.slice.injEq] at eA
            obtain ⟨rfl, -, rfl⟩ := eA
            obtain ⟨y, hy⟩ : ∃ y, tn l i = y := ⟨_, rfl⟩
            have HY := Aside0.mk hy
            obtain ⟨hx0, hx1, hx2, hx3, hx4, hx5, hx6, hx7⟩ := at_rowT HLi.out i hin
            rw [hy] at hx0 hx1 hx2 hx3 hx4 hx5 hx6 hx7
            have hmem : y ∈ l := by rw [← hy]; unfold tn; rw [List.getElem?_eq_getElem hin]; exact List.getElem_mem hin
            have HRy := Aside0.mk (HR0.out y (HSa.out.perm.mem_iff.2 (List.mem_append.2 (.inl hmem))))
            have HDy := Aside0.mk (HSa.out.due y hmem)
            clear hy hmem
            by_cases h3 : y.f1 = 3
            · have h3' : (y.f1 == 3) = true := by simpa using h3
              have H3 := Aside0.mk h3
              have HFr := Aside0.mk (fold_fresh HFi.out HPa.out HG0.out.idl hin (by rw [HY.out]; exact h3))
              rw [HY.out] at HFr
              have HNx := Aside0.mk (show ((l.take i).foldl (rearm now) S1).next ≤ 1000000000000000000 from by have h1 := (fold_says now S1 (l.take i)).next.1; have h2 := HSa.out.next; rw [List.length_take] at h1; omega)
              clear h3
              go_wp2_with (first
                | ((with_reducible refine gate_dst (N := 15) rfl ?_); refine box_event ?hg (N := 15) ?hd (cs := #[.int .i64 0, .int .i64 0, .int .i64 0, .int .i64 0, .int .i64 0, .int .u64 0, .bool false, .int .u64 0]) (t := 40) ?hr ?_; (case hd => rfl); (case hg => rfl); (case hr => first | (go_simp; done) | (go_simp; rfl)); intro g15 hg15 w5 hbox hb; have HT5 := Aside0.mk (HTi.out.below hb); have HL5 := Aside0.mk (Kd.R_below HLi.out hb); have HF5 := Aside0.mk (HFq.out.below hb); have B5 := Aside0.mk hbox; have HG15 := Aside0.mk (show wr.heap.size ≤ g15 by omega); have HN5 := Aside0.mk (Nat.le_trans HNq.out hb.size); clear hb hbox hg15 hx0 hx1 hx2 hx3 hx4 hx5 hx6 hx7)
                | ((with_reducible refine gate_store (t := 40) (p := 15) (v := .tmp 76) rfl ?_); refine step_store rfl rfl rfl B5.out rfl (u := .agg #[.int .i64 y.f0, .int .i64 y.f1, .int .i64 y.f2.f0, .int .i64 y.f2.f1, .int .i64 y.f3, .int .u64 y.f4, .bool y.f5, .int .u64 y.f6]) (seg := [.int .i64 y.f0, .int .i64 y.f1, .int .i64 y.f2.f0, .int .i64 y.f2.f1, .int .i64 y.f3, .int .u64 y.f4, .bool y.f5, .int .u64 y.f6]) rfl rfl (by kernel_rfl) (by simp [Value.oneCell']) (Nat.le_refl 8) (cur' := #[.int .i64 y.f0, .int .i64 y.f1, .int .i64 y.f2.f0, .int .i64 y.f2.f1, .int .i64 y.f3, .int .u64 y.f4, .bool y.f5, .int .u64 y.f6]) rfl ?_; intro w6 hb6 hg6 hs6; have HT6 := Aside0.mk (HT5.out.grown hg6 (HTi.out.new HG15.out)); have HF6 := Aside0.mk (HF5.out.grown hg6 (.inr (Nat.le_trans HFq.out.size HG15.out))); have HL6 := Aside0.mk (Kd.R_grown HL5.out hg6 (fun k hk e => by cases e; exact absurd hk.2 (Nat.not_lt.2 (Nat.le_trans HNq.out HG15.out)))); have HN6 := Aside0.mk (Nat.le_trans HN5.out hg6.size); have B6 := Aside0.mk hb6; clear hb6 hg6 hs6 HT5 HF5 HL5 HN5 B5; have z0 : w6.cell? ⟨g15, 0, none⟩ = some (.int .i64 y.f0) := (blk_cell B6.out 0).trans rfl; have z1 : w6.cell? ⟨g15, 1, none⟩ = some (.int .i64 y.f1) := (blk_cell B6.out 1).trans rfl; have z2 : w6.cell? ⟨g15, 2, none⟩ = some (.int .i64 y.f2.f0) := (blk_cell B6.out 2).trans rfl; have z3 : w6.cell? ⟨g15, 3, none⟩ = some (.int .i64 y.f2.f1) := (blk_cell B6.out 3).trans rfl; have z4 : w6.cell? ⟨g15, 4, none⟩ = some (.int .i64 y.f3) := (blk_cell B6.out 4).trans rfl; have z5 : w6.cell? ⟨g15, 5, none⟩ = some (.int .u64 y.f4) := (blk_cell B6.out 5).trans rfl; have z6 : w6.cell? ⟨g15, 6, none⟩ = some (.bool y.f5) := (blk_cell B6.out 6).trans rfl; have z7 : w6.cell? ⟨g15, 7, none⟩ = some (.int .u64 y.f6) := (blk_cell B6.out 7).trans rfl)
                | (go_at_call 34; (refine (again_calls y now _ HRy.out.t0 HDy.out.1 hu1 (HRy.out.pp H3.out) HRy.out.p1).mono ?_); rintro e w7 ⟨rfl, hb⟩; have HT7 := Aside0.mk (HT6.out.below hb); have HL7 := Aside0.mk (Kd.R_below HL6.out hb); have HF7 := Aside0.mk (HF6.out.below hb); have HN7 := Aside0.mk (Nat.le_trans HN6.out hb.size); clear hb HT6 HL6 HF6 HN6 z0 z1 z2 z3 z4 z5 z6 z7)
                | (go_at_call 33; (refine (arm_calls base P.p oki _ (again now y) _ HT7.out HFr.out HNx.out).mono ?_); rintro e w8 ⟨ok8, rfl, h1, h2, h3⟩; have HT8 := Aside0.mk h1; have HK8 := Aside0.mk (show ∀ k, ok8 k → P.ok k ∨ nb ≤ k from fun k q => (h2 k q).elim (HKi.out k) (fun r => .inr (Nat.le_trans HN7.out r))); have HF8 := Aside0.mk (HF7.out.then_ h3 (Nat.le_refl _) (fun k q => (HKi.out k q).imp id (Nat.le_trans HNb.out))); have HL8 := Aside0.mk (Kd.R_kept HL7.out h3.k (fun k q r => (HKi.out k r).elim (fun r => absurd (HH.out.fine.bound k r) (Nat.not_lt.2 q.1)) (fun r => absurd q.2 (Nat.not_lt.2 r)))); have HN8 := Aside0.mk (Nat.le_trans HN7.out h3.size); clear h1 h2 h3 HT7 HL7 HF7 HN7))
              go_roundw
              case rel => exact ⟨i + 1, ok8, by go_num, ⟨by omega⟩, ⟨by rw [fold_step hin, HY.out, show rearm now _ y = _ from if_pos H3.out]; exact HT8.out⟩, HK8, HL8, HF8, HN8⟩
              case measure => simp [intOf]; omega
            · have h3' : (y.f1 == 3) = false := by simpa using h3
              have H3 := Aside0.mk h3
              clear h3
              go_wp2_with (first
                | ((with_reducible refine gate_dst (N := 15) rfl ?_); refine box_event ?hg (N := 15) ?hd (cs := #[.int .i64 0, .int .i64 0, .int .i64 0, .int .i64 0, .int .i64 0, .int .u64 0, .bool false, .int .u64 0]) (t := 40) ?hr ?_; (case hd => rfl); (case hg => rfl); (case hr => first | (go_simp; done) | (go_simp; rfl)); intro g15 hg15 w5 hbox hb; have HT5 := Aside0.mk (HTi.out.below hb); have HL5 := Aside0.mk (Kd.R_below HLi.out hb); have HF5 := Aside0.mk (HFq.out.below hb); have B5 := Aside0.mk hbox; have HG15 := Aside0.mk (show wr.heap.size ≤ g15 by omega); have HN5 := Aside0.mk (Nat.le_trans HNq.out hb.size); clear hb hbox hg15 hx0 hx1 hx2 hx3 hx4 hx5 hx6 hx7)
                | ((with_reducible refine gate_store (t := 40) (p := 15) (v := .tmp 76) rfl ?_); refine step_store rfl rfl rfl B5.out rfl (u := .agg #[.int .i64 y.f0, .int .i64 y.f1, .int .i64 y.f2.f0, .int .i64 y.f2.f1, .int .i64 y.f3, .int .u64 y.f4, .bool y.f5, .int .u64 y.f6]) (seg := [.int .i64 y.f0, .int .i64 y.f1, .int .i64 y.f2.f0, .int .i64 y.f2.f1, .int .i64 y.f3, .int .u64 y.f4, .bool y.f5, .int .u64 y.f6]) rfl rfl (by kernel_rfl) (by simp [Value.oneCell']) (Nat.le_refl 8) (cur' := #[.int .i64 y.f0, .int .i64 y.f1, .int .i64 y.f2.f0, .int .i64 y.f2.f1, .int .i64 y.f3, .int .u64 y.f4, .bool y.f5, .int .u64 y.f6]) rfl ?_; intro w6 hb6 hg6 hs6; have HT6 := Aside0.mk (HT5.out.grown hg6 (HTi.out.new HG15.out)); have HF6 := Aside0.mk (HF5.out.grown hg6 (.inr (Nat.le_trans HFq.out.size HG15.out))); have HL6 := Aside0.mk (Kd.R_grown HL5.out hg6 (fun k hk e => by cases e; exact absurd hk.2 (Nat.not_lt.2 (Nat.le_trans HNq.out HG15.out)))); have HN6 := Aside0.mk (Nat.le_trans HN5.out hg6.size); have B6 := Aside0.mk hb6; clear hb6 hg6 hs6 HT5 HF5 HL5 HN5 B5; have z0 : w6.cell? ⟨g15, 0, none⟩ = some (.int .i64 y.f0) := (blk_cell B6.out 0).trans rfl; have z1 : w6.cell? ⟨g15, 1, none⟩ = some (.int .i64 y.f1) := (blk_cell B6.out 1).trans rfl; have z2 : w6.cell? ⟨g15, 2, none⟩ = some (.int .i64 y.f2.f0) := (blk_cell B6.out 2).trans rfl; have z3 : w6.cell? ⟨g15, 3, none⟩ = some (.int .i64 y.f2.f1) := (blk_cell B6.out 3).trans rfl; have z4 : w6.cell? ⟨g15, 4, none⟩ = some (.int .i64 y.f3) := (blk_cell B6.out 4).trans rfl; have z5 : w6.cell? ⟨g15, 5, none⟩ = some (.int .u64 y.f4) := (blk_cell B6.out 5).trans rfl; have z6 : w6.cell? ⟨g15, 6, none⟩ = some (.bool y.f5) := (blk_cell B6.out 6).trans rfl; have z7 : w6.cell? ⟨g15, 7, none⟩ = some (.int .u64 y.f6) := (blk_cell B6.out 7).trans rfl))
              go_roundw
              case rel => exact ⟨i + 1, oki, by go_num, ⟨by omega⟩, ⟨by rw [fold_step hin, HY.out, show rearm now _ y = _ from if_neg H3.out]; exact HT6.out⟩, HKi, HL6, HF6, HN6⟩
              case measure => simp [intOf]; omega
          · have hi : i = l.length := by have := HI.out; omega
            have HT9 : Aside0 (TP wr base P.p oki (l.foldl (rearm now) S1)) := ⟨by have h := HTi.out; rw [hi, List.take_length] at h; exact h⟩
            go_wp2
            go_ret
            exact ⟨oki, _, _, l, S1, rfl, HPa.out, HM.out, HT9.out, HLi.out, fun k q => ⟨fun r => (HKi.out k r).elim (fun r => absurd (HH.out.fine.bound k r) (Nat.not_lt.2 q.1)) (fun r => absurd q.2 (Nat.not_lt.2 r)), q.1⟩, fun k q => (HKi.out k q).imp id (Nat.le_trans HNb.out), HFq.out⟩
end Go.Proofs.Ytceopcfmhidjlaa.PTimerPlays

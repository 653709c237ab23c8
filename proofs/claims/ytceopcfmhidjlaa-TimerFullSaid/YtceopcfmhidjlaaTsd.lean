/- Stop, where it stops one. Conditions: each theorem's own. -/
import Derived.Test.YtceopcfmhidjlaaTsp
import Derived.Test.YtceopcfmhidjlaaTrm
set_option linter.unusedVariables false
set_option linter.unusedSimpArgs false
namespace Go.Proofs.Ytceopcfmhidjlaa.PTimerPlays
open Go.RowKit Go.Proofs.Ytceopcfmhidjlaa.Ef Go.Proofs.Ytceopcfmhidjlaa.Mp Go.Proofs.Ytceopcfmhidjlaa.Hp Go.Proofs.YtceopcfmhidjlaaW.PrintWords Go.Proofs.YtceopcfmhidjlaaW.PrintLast Go.Proofs.YtceopcfmhidjlaaW.PrintMore

set_option maxHeartbeats 4000000 in
set_option maxRecDepth 100000 in
theorem stop_heap (base p : Nat) (ok : Nat → Prop) (S : TS) (n : NI) (w : World) (H : TP w base p ok S) (hx : n ∈ S.hp) (hk : n.val.f1 ≠ 1) :
    Calls Try.prog 14 #[.pointer (some ⟨p, 0, none⟩), .int .i64 n.val.f0] w fun e w' => ∃ ok', e = .returned (.bool true) ∧ TP w' base p ok' (S.rm n.val.f0) ∧ (∀ k, ok' k → ok k ∨ w.heap.size ≤ k) ∧ Fr base ok w w' := by
  have hk' : (n.val.f1 == 1) = false := by simpa using hk
  have hfl := field_kind n.val
  have HK := Aside0.mk hk
  have HX := Aside0.mk hx
  have HF0 := Aside0.mk H.fr
  obtain ⟨id, hid⟩ : ∃ i, n.val.f0 = i := ⟨_, rfl⟩
  have HI := Aside0.mk hid
  rw [hid]
  have HT := Aside0.mk H
  obtain ⟨P, v, ids, own, gs, rfl, rfl, hA, hG⟩ := H
  have hg : Mp.get id ids = some (plc n.num false) ∧ Mp.get id own = some (.agg (cT n.val)) := by rw [← hid]; exact see_h hG hx
  clear hx hk hid
  have HH := Aside0.mk hA
  have HG := Aside0.mk hg
  have HQ := Aside0.mk hG
  clear hA hG hg
  go_enter Try.func14, Try.ntmps14
  go_wp2_with (first
    | ((with_reducible refine gate_dst (N := 3) rfl ?_); refine box_event ?hg (N := 3) ?hd (cs := #[.int .i64 id]) (t := 2) ?hr ?_; (case hd => rfl); (case hg => rfl); (case hr => first | (go_simp; done) | (go_simp; rfl)); intro g3 hg3 w1 hbox hb; have HB := Aside0.mk hb; have HG3 := Aside0.mk (show w.heap.size ≤ g3 by omega); have HA1 := Aside0.mk (HH.out.below hb); have HT1 := Aside0.mk (HT.out.below hb); have B3 := Aside0.mk hbox; have pi : w1.cell? ⟨P.p, 4, none⟩ = some (.map (some P.bi)) := (blk_cell HA1.out.blk 4).trans rfl; have y0 : w1.cell? ⟨g3, 0, none⟩ = some (.int .i64 id) := (blk_cell hbox 0).trans rfl; clear hb hbox hg3)
    | (go_at_call 26; (refine (is_calls base P.p P.ok S _ HT1.out).mono ?_); rintro e w1' ⟨rfl, rfl⟩))
  have hlk0 := look_ids HA1.out (Below.refl _ _) HG.out.1
  have hlk1 := look_ids HA1.out (below_drew (Below.refl _ _)) HG.out.1
  have hlk2 := fun o => look_ids HA1.out (below_alloc (Below.refl _ w1) o) HG.out.1
  have hlk3 := fun o => look_ids HA1.out (below_drew (below_alloc (Below.refl _ w1) o)) HG.out.1
  have hK : ∀ o, (w1.alloc o).cell? ⟨P.p, 4, none⟩ = some (.map (some P.bi)) ∧ (w1.alloc o).cell? ⟨g3, 0, none⟩ = some (.int .i64 id) := fun o => ⟨((below_alloc (Below.refl _ _) o).cell (p := ⟨P.p, 4, none⟩) (blk_lt HA1.out.blk)).trans pi, ((below_alloc (Below.refl _ _) o).cell (p := ⟨g3, 0, none⟩) (blk_lt B3.out)).trans y0⟩
  simp only [Option.getD_some, Option.isSome_some] at hlk0 hlk1 hlk2 hlk3
  go_region_held3 (fun w' => w'.cell? ⟨P.p, 4, none⟩ = some (.map (some P.bi)) ∧ w'.cell? ⟨g3, 0, none⟩ = some (.int .i64 id)) (first | go_keep | exact hK _) (fail)
  all_goals
    have hbd := below_drew (below_alloc (Below.refl w1.heap.size w1) (.cells #[.int .i64 n.num, .bool false] 73 (0, 0)))
    have HB2 := Aside0.mk (HB.out.trans (below_up hbd HB.out.size))
    have HA2 := Aside0.mk (HA1.out.below hbd)
    have B32 := Aside0.mk (blk_below B3.out hbd)
    have B5 : Aside0 ((w1.alloc (.cells #[.int .i64 n.num, .bool false] 73 (0, 0))).drew.heap[w1.heap.size]? = some (.cells #[.int .i64 n.num, .bool false] 73 (0, 0))) := ⟨blk_new _ _⟩
    have HG5 := Aside0.mk HB.out.size
    clear hlk0 hlk1 hlk2 hlk3 hK pi y0 hbd HA1 HT1 B3 HB
    rename_i hHeld
    clear hHeld
    generalize (w1.alloc (.cells #[.int .i64 n.num, .bool false] 73 (0, 0))).drew = w2 at *
    generalize w1.heap.size = g5 at *
    go_wp2
    have po : w2.cell? ⟨P.p, 5, none⟩ = some (.map (some P.bo)) := (blk_cell HA2.out.blk 5).trans rfl
    have y0 : w2.cell? ⟨g3, 0, none⟩ = some (.int .i64 id) := (blk_cell B32.out 0).trans rfl
    have hlo0 := look_own HA2.out (Below.refl _ _) HG.out.2
    have hlo1 := look_own HA2.out (below_drew (Below.refl _ _)) HG.out.2
    simp only [Option.getD_some, cT] at hlo0 hlo1
    go_region
    all_goals
      have HA3 := Aside0.mk HA2.out.drew
      have B33 : Aside0 (w2.drew.heap[g3]? = some (.cells #[.int .i64 id] 2 (0, 0))) := ⟨B32.out⟩
      have B53 : Aside0 (w2.drew.heap[g5]? = some (.cells _ 73 (0, 0))) := ⟨B5.out⟩
      have HB3 := Aside0.mk (below_drew HB2.out)
      clear po y0 hlo0 hlo1 HA2 B32 B5 HB2
      generalize w2.drew = w3 at *
      have HF3 := Aside0.mk (HF0.out.below HB3.out)
      have HNo := Aside0.mk (HH.out.new HG3.out)
      have pq : w3.cell? ⟨P.p, 2, none⟩ = some (.pointer (some ⟨P.q, 0, none⟩)) := (blk_cell HA3.out.blk 2).trans rfl
      have z0 : w3.cell? ⟨g5, 0, none⟩ = some (.int .i64 n.num) := (blk_cell B53.out 0).trans rfl
      have z1 : w3.cell? ⟨g5, 1, none⟩ = some (.bool false) := (blk_cell B53.out 1).trans rfl
      go_wp2
      go_still_tail 6, (by kernel_rfl)
      change wpList _ _ _ _ _ w3.drew
      have HA3d := Aside0.mk HA3.out.drew
      have HF3d := Aside0.mk HF3.out.drew
      have B33d : Aside0 (w3.drew.heap[g3]? = some (.cells #[.int .i64 id] 2 (0, 0))) := ⟨B33.out⟩
      have HLen := Aside0.mk HQ.out.len
      clear pq z0 z1 HA3 HF3 B33 B53 HB3
      generalize w3.drew = w4 at *
      go_wp2_with (go_at_call 30; (refine (HP.drop base P.q P.H S.hp (S.rm n.val.f0).hp S.next n _ HA3d.out.heap (rm_hp HQ.out HX.out).1 (by have := HLen.out; simp [TS.all] at this; omega)).mono ?_); rintro e w5 ⟨rfl, hh, hF⟩; have HA5 := Aside0.mk (HA3d.out.heaped hh hF.k (fun k q => .inl q)); have HF5 := Aside0.mk (HF3d.out.then_ hF (Nat.le_refl _) (fun k q => .inl (.inr (.inr (.inr (.inr (.inl q))))))); have B35 := Aside0.mk (hF.blk B33d.out (fun q => HNo.out (.inr (.inr (.inr (.inr (.inl q))))))); clear hh hF HA3d HF3d B33d)
      have pi : w5.cell? ⟨P.p, 4, none⟩ = some (.map (some P.bi)) := (blk_cell HA5.out.blk 4).trans rfl
      have y0 : w5.cell? ⟨g3, 0, none⟩ = some (.int .i64 id) := (blk_cell B35.out 0).trans rfl
      go_wp2
      go_still_tail 5, (by kernel_rfl)
      change wpList _ _ _ _ _ w5.drew
      have HA5d := Aside0.mk HA5.out.drew
      have HF5d := Aside0.mk HF5.out.drew
      have B35d : Aside0 (w5.drew.heap[g3]? = some (.cells #[.int .i64 id] 2 (0, 0))) := ⟨B35.out⟩
      clear pi y0 HA5 HF5 B35
      generalize w5.drew = w6 at *
      go_wp2_with ((with_reducible refine gate_del (args := #[.tmp 52, .tmp 53]) rfl ?_); refine step_delS keyL Try.underlying54 rfl rfl HA5d.out.mi id rfl rfl ?_; intro w7 hm hgr hs; have HA7 := Aside0.mk (HA5d.out.ided hm hgr); have HF7 := Aside0.mk (HF5d.out.grown hgr (.inl (.inr (.inl rfl)))); have B37 := Aside0.mk (blk_grown B35d.out hgr (fun e => HNo.out (.inr (.inl (Option.some.inj e))))); clear hm hgr hs HA5d HF5d B35d)
      have po : w7.cell? ⟨P.p, 5, none⟩ = some (.map (some P.bo)) := (blk_cell HA7.out.blk 5).trans rfl
      have y0 : w7.cell? ⟨g3, 0, none⟩ = some (.int .i64 id) := (blk_cell B37.out 0).trans rfl
      go_still_tail 5, (by kernel_rfl)
      change wpList _ _ _ _ _ w7.drew
      have HA7d := Aside0.mk HA7.out.drew
      have HF7d := Aside0.mk HF7.out.drew
      clear po y0 HA7 HF7 B37
      generalize w7.drew = w8 at *
      go_wp2_with ((with_reducible refine gate_del (args := #[.tmp 57, .tmp 58]) rfl ?_); refine step_delS keyL Try.underlying55 rfl rfl HA7d.out.mo id rfl rfl ?_; intro w9 hm hgr hs; have HA9 := Aside0.mk (HA7d.out.owned hm hgr); have HF9 := Aside0.mk (HF7d.out.grown hgr (.inl (.inr (.inr (.inl rfl))))); clear hm hgr hs HA7d HF7d)
      go_ret
      have hG := HQ.out.rm (x := n.val) (List.mem_append.2 (.inl (List.mem_map.2 ⟨n, HX.out, rfl⟩)))
      rw [show gsD n.val gs = gs from if_neg HK.out, HI.out] at hG
      have h2 := (rm_hp HQ.out HX.out).2
      have hA := HA9.out
      rw [← h2, HI.out] at hA
      exact ⟨P.ok, rfl, ⟨P, v, _, _, _, rfl, rfl, hA, hG⟩, fun k q => .inl q, HF9.out⟩
end Go.Proofs.Ytceopcfmhidjlaa.PTimerPlays

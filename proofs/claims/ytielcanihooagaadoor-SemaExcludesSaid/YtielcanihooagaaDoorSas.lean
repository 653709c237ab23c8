/- A mutex: ask. Conditions: each theorem's own. -/
import Derived.Test.YtielcanihooagaaDoorSha
set_option linter.unusedVariables false
set_option linter.unusedSimpArgs false
namespace Go.Proofs.YtielcanihooagaaDoor.PSemaExcludes
open Go.RowKit Go.Proofs.YtielcanihooagaaDoor.Ef Go.Proofs.YtielcanihooagaaDoor.Mp Go.Proofs.YtielcanihooagaaDoorW.PrintWords Go.Proofs.YtielcanihooagaaDoorW.PrintLast Go.Proofs.YtielcanihooagaaDoorW.PrintMore

theorem push_mx {w : World} {base gb n : Nat} {v : Value} {ok : Nat → Prop} {q : List S83} {lo : Bool} {rd : Int} (x : S83) (h : MX w base gb n v ok q lo rd) (hb : base ≤ w.heap.size) (hl : (q.length + 1) * 24 ≤ 140737488355328) :
    Calls Tryd.prog 31 #[.pointer (some ⟨gb, 3 * n, none⟩), .agg #[.int .i64 x.f0.f0, .int .i64 x.f0.f1, .bool x.f1]] w fun e w' => ∃ v', e = .returned (.tuple #[]) ∧ MX w' base gb n v' (fun k => ((ok k ∨ w.heap.size ≤ k) ∧ k ≠ gb) ∧ k < w'.heap.size) (q ++ [x]) lo rd ∧ Fr base (fun k => k = gb ∨ (ok k ∧ base ≤ k)) w w' := by
  obtain ⟨c, a, hc⟩ := h.c
  exact (pushL_calls base gb (3 * n) 79 c v ok q x w ⟨a, hc.q, h.row, h.ne, h.low⟩ hb hl).mono fun e w' ⟨v', he, hC, hF⟩ => ⟨v', he, ⟨⟨_, hC.blk, hc.setq h.n v'⟩, Kd.R_mono (Kd.R_bound hC.row) (fun k q => ⟨q.1, q.2.2.1⟩), fun k q => q.1.2, h.low, h.n⟩, hF⟩
/-- Is one among those? -/
def inG (a b : Int) (l : List S34) : Bool := l.any (fun x => x.f0 == a && x.f1 == b)
theorem index_f (a b : Int) (l : List S34) (hl : l.length ≤ 4000000000000) : ∀ (d k i : Nat), d < k → i + d = l.length → ∃ r : Int, api_Gid_77.l0 k l (l.length : Int) (i : Int) a b = some r ∧ (decide (r ≥ 0) = inG a b (l.drop i)) := by
  intro d
  induction d with
  | zero =>
    intro k i hk hi
    obtain ⟨k, rfl⟩ : ∃ j, k = j + 1 := ⟨k - 1, by omega⟩
    refine ⟨-1, ?_, ?_⟩
    · unfold api_Gid_77.l0
      rw [if_neg (by omega)]
    · rw [List.drop_eq_nil_of_le (by omega)]
      rfl
  | succ d ih =>
    intro k i hk hi
    obtain ⟨k, rfl⟩ : ∃ j, k = j + 1 := ⟨k - 1, by omega⟩
    have hil : i < l.length := by omega
    have e : rd_T34 l (i : Int) = l[i] := by simp [rd_T34, hil]
    have ew : wrap64 ((i : Int) + 1) = ((i + 1 : Nat) : Int) := by unfold wrap64; omega
    obtain ⟨r, h1, h2⟩ := ih k (i + 1) (by omega) (by omega)
    by_cases hc : (a == (l[i]).f0 && b == (l[i]).f1) = true
    · refine ⟨(i : Int), ?_, ?_⟩
      · unfold api_Gid_77.l0
        rw [if_pos (by omega), if_pos (by omega), if_pos (by omega), e, if_pos hc]
      · rw [List.drop_eq_getElem_cons hil]
        unfold inG
        rw [List.any_cons]
        have : ((l[i]).f0 == a && (l[i]).f1 == b) = true := by simp only [Bool.and_eq_true, beq_iff_eq] at hc ⊢; exact ⟨hc.1.symm, hc.2.symm⟩
        rw [this, Bool.true_or]
        exact decide_eq_true (by omega)
    · refine ⟨r, ?_, ?_⟩
      · unfold api_Gid_77.l0
        rw [if_pos (by omega), if_pos (by omega), if_pos (by omega), e, if_neg hc, ew]
        exact h1
      · rw [h2, List.drop_eq_getElem_cons hil]
        unfold inG
        rw [List.any_cons]
        have : ((l[i]).f0 == a && (l[i]).f1 == b) = false := by
          rw [Bool.eq_false_iff]
          intro q
          simp only [Bool.and_eq_true, beq_iff_eq] at hc q
          exact hc ⟨q.1.symm, q.2.symm⟩
        rw [this, Bool.false_or]
theorem contains_f (a b : Int) (l : List S34) (hl : l.length ≤ 4000000000000) : api_Gid_62.f (l.length + 1) l a b = some (inG a b l) := by
  obtain ⟨r, h1, h2⟩ := index_f a b l hl l.length (l.length + 1) 0 (by omega) (by omega)
  unfold api_Gid_62.f api_Gid_77.f
  rw [show (0 : Int) = ((0 : Nat) : Int) from rfl, h1]
  simp only [Option.bind_some]
  rw [List.drop_zero] at h2
  rw [← h2]
  rfl
set_option maxHeartbeats 4000000 in
set_option maxRecDepth 100000 in
theorem ask_calls (base gb n : Nat) (v : Value) (ok : Nat → Prop) (q : List S83) (lo : Bool) (rd a b : Int) (read : Bool) (w : World) (H : MX w base gb n v ok q lo rd) (hb : base ≤ w.heap.size) (hq : ∀ k, ok k → k < w.heap.size) (h0 : 0 ≤ rd) (hs : rd + (q.length : Int) ≤ 3000000000000) {q' : List S83} {lo' : Bool} {rd' : Int} {wk : List S34} (hH : handM (q ++ [⟨⟨a, b⟩, read⟩]) lo rd = (q', lo', rd', wk)) (hwk : wk.length ≤ 4000000000000) :
    Calls Tryd.prog 27 #[.pointer (some ⟨gb, 3 * n, none⟩), .agg #[.int .i64 a, .int .i64 b], .bool read] w fun e w' => ∃ v' ok', e = .returned (.bool (!inG a b wk)) ∧ MX w' base gb n v' ok' q' lo' rd' ∧ (∀ k, ok' k → ok k ∨ w.heap.size ≤ k) ∧ Fr base (fun k => k = gb ∨ (ok k ∧ base ≤ k)) w w' := by
  have hu79 := Tryd.underlying79
  have HH := Aside0.mk H
  have HE := Aside0.mk hH
  have HC := Aside0.mk (contains_f a b wk hwk)
  have HF := Aside0.mk (Fr.refl (S := fun k => k = gb ∨ (ok k ∧ base ≤ k)) (w := w) hb (fun k q => q.elim (fun e => e ▸ H.low) (fun q => q.2)))
  have hl : (q.length + 1) * 24 ≤ 140737488355328 := by omega
  have HS := Aside0.mk (show rd + ((q ++ [⟨⟨a, b⟩, read⟩] : List S83).length : Int) ≤ 4000000000000 by rw [List.length_append]; simp; omega)
  have HLt := Aside0.mk H.lt
  clear H hH hs
  go_enter Tryd.func27, Tryd.ntmps27
  go_upto_region 1 with (((with_reducible refine gate_dst (N := 4) rfl ?_); refine box_event ?hg (N := 4) ?hd (cs := #[.int .i64 a, .int .i64 b]) (t := 34) ?hr ?_; (case hd => rfl); (case hg => rfl); (case hr => first | (go_simp; done) | (go_simp; rfl)); intro g4 hg4 w1 hbox hb1; have HE4 := Aside0.mk (show w.heap.size ≤ g4 by omega); have HM1 := Aside0.mk (HH.out.below hb1); have HF1 := Aside0.mk (HF.out.below hb1); have B4 := Aside0.mk hbox; clear hbox hb1 hg4))
  have k0 : w1.cell? ⟨g4, 0, none⟩ = some (.int .i64 a) := (blk_cell B4.out 0).trans rfl
  have k1 : w1.cell? ⟨g4, 1, none⟩ = some (.int .i64 b) := (blk_cell B4.out 1).trans rfl
  go_region_with (go_at_call 31; (refine (push_mx (⟨⟨a, b⟩, read⟩ : S83) (MX.below HM1.out (pw_below_drewN (Below.refl _ _) 1)) (Nat.le_trans hb HF1.out.size) hl).mono ?_); rintro e w2 ⟨v2, rfl, hm, hF⟩; have HM2 := Aside0.mk hm; have HF2 := Aside0.mk ((HF1.out.drewN 1).then_ hF (Nat.le_refl _) (fun k q => .inl q)); have HK2 := Aside0.mk hF; have B42 := Aside0.mk (hF.blk (w := w1.drewN 1) B4.out (fun s => s.elim (fun e => by have := HE4.out; have := HLt.out; omega) (fun s => by have := HE4.out; have := hq _ s.1; omega))); clear hm hF)
  all_goals
    go_wp2
    have k0' : w2.cell? ⟨g4, 0, none⟩ = some (.int .i64 a) := (blk_cell B42.out 0).trans rfl
    have k1' : w2.cell? ⟨g4, 1, none⟩ = some (.int .i64 b) := (blk_cell B42.out 1).trans rfl
    clear k0 k1
    go_region_with (first
      | (go_at_call 29; (refine (hand_calls base gb n v2 _ _ lo rd _ (MX.below HM2.out (pw_below_drewN (Below.refl _ _) 1)) (Nat.le_trans hb HF2.out.size) (fun k q => q.2) h0 HS.out HE.out).mono ?_); rintro e w3 ⟨v3, vo, rfl, hm, ho, hF⟩; (obtain ⟨Ao, co, rfl⟩ := Kd.R_slice ho); have HM3 := Aside0.mk hm; have HO3 := Aside0.mk ho; have HF3 := Aside0.mk ((HF2.out.drewN 1).then_ hF (Nat.le_refl _) (fun k s => s.elim (fun e => .inl (.inl e)) (fun s => s.1.1.1.elim (fun p => .inl (.inr ⟨p, s.2⟩)) (fun p => .inr (Nat.le_trans HF1.out.size p))))); have B43 := Aside0.mk (hF.blk (w := w2.drewN 1) B42.out (fun s => s.elim (fun e => by have := HE4.out; have := HLt.out; omega) (fun s => s.1.1.1.elim (fun p => by have := HE4.out; have := hq _ p; omega) (fun p => by have := blk_lt B4.out; exact absurd p (Nat.not_le.2 this))))); clear hm ho hF k0' k1'; have k0' : w3.cell? ⟨g4, 0, none⟩ = some (.int .i64 a) := (blk_cell B43.out 0).trans rfl; have k1' : w3.cell? ⟨g4, 1, none⟩ = some (.int .i64 b) := (blk_cell B43.out 1).trans rfl)
      | (go_at_call 62; (refine (api_Gid_62.calls (wk.length + 1) Ao co wk a b (inG a b wk) _ (Kd.R_reads' HO3.out).2.2 (Kd.R_reads' HO3.out).2.1 HC.out).mono ?_); rintro e w4 ⟨rfl, hb4⟩; have HM4 := Aside0.mk (HM3.out.below hb4); have HF4 := Aside0.mk (HF3.out.below hb4); clear hb4 k0' k1'))
    all_goals
      go_wp2
      go_ret
      exact ⟨v3, _, rfl, HM4.out, fun k q => q.1.1.imp id (Nat.le_trans HF1.out.size), HF4.out⟩
end Go.Proofs.YtielcanihooagaaDoor.PSemaExcludes

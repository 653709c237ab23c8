/- The finder's 'others': the arrows of spawns, closes, mutexes, groups and atomic accesses. Conditions: each theorem's own. -/
import Derived.Test.YtkbfijkohngjjaaOz1
import Derived.BigQuiet
import Derived.Deep.RegionHeld3
import Derived.Shelf.Abstract
set_option linter.unusedVariables false
set_option linter.unusedSimpArgs false
namespace Go.Proofs.Ytkbfijkohngjjaa.Od
open Go.RowKit Go.Proofs.Ytkbfijkohngjjaa.Ef Go.Proofs.Ytkbfijkohngjjaa.Mp Go.Proofs.Ytkbfijkohngjjaa.QOrder Go.Proofs.YtkbfijkohngjjaaW.PrintWords Go.Proofs.YtkbfijkohngjjaaW.PrintLast Go.Proofs.YtkbfijkohngjjaaW.PrintMore
attribute [local go_sem high] eqA34

set_option maxHeartbeats 2000000 in
set_option maxRecDepth 100000 in
theorem handle_calls (g : S34) (w : World) : Calls Try.prog 55 #[.agg #[.int .i64 g.f0, .int .i64 g.f1]] w fun e w' => e = .returned (.int .i64 (handle g)) ∧ Below w.heap.size w w' := by
  have hu34 := Try.underlying34
  unfold handle
  go_enter Try.func55, Try.ntmps55
  go_wp2_with ((with_reducible refine gate_dst (N := 1) rfl ?_); refine box_event ?hg (N := 1) ?hd (cs := #[.int .i64 g.f0, .int .i64 g.f1]) (t := 34) ?hr ?_; (case hd => rfl); (case hg => rfl); (case hr => first | (go_simp; done) | (go_simp; rfl)); intro g2 hg2 w1 hbox hb; have HB := Aside0.mk hb; have x0 : w1.cell? ⟨g2, 0, none⟩ = some (.int .i64 g.f0) := (blk_cell hbox 0).trans rfl; have x1 : w1.cell? ⟨g2, 1, none⟩ = some (.int .i64 g.f1) := (blk_cell hbox 1).trans rfl; clear hb hbox hg2)
  go_ret
  exact ⟨rfl, HB.out⟩
/-! ### the walk -/
def PO (l : List S36) (i : Nat) : Props := fun f t w => t < i ∧ otherP l f t w
theorem PO_step {l : List S36} {i : Nat} {P Q : Props} (h1 : ∀ f w, otherP l f i w ↔ Q f i w) (h2 : ∀ f t w, Q f t w → t = i) : ∀ f t w, (orP (orP P (PO l i)) Q f t w ↔ orP P (PO l (i + 1)) f t w) := by
  intro f t w
  constructor
  · rintro ((a | ⟨a, b⟩) | a)
    · exact .inl a
    · exact .inr ⟨by omega, b⟩
    · have := h2 _ _ _ a
      subst this
      exact .inr ⟨by omega, (h1 _ _).2 a⟩
  · rintro (a | ⟨a, b⟩)
    · exact .inl (.inl a)
    · by_cases e : t = i
      · subst e; exact .inr ((h1 _ _).1 b)
      · exact .inl (.inr ⟨by omega, b⟩)
theorem PO_none {l : List S36} {i : Nat} {P : Props} (h1 : ∀ f w, ¬ otherP l f i w) : ∀ f t w, (orP P (PO l i) f t w ↔ orP P (PO l (i + 1)) f t w) := by
  intro f t w
  rw [← PO_step (P := P) (Q := fun _ _ _ => False) (fun f w => ⟨fun h => h1 f w h, fun h => h.elim⟩) (fun _ _ _ h => h.elim)]
  exact ⟨.inl, fun h => h.elim id (fun h => h.elim)⟩
theorem PO_each {l : List S36} {i : Nat} {P : Props} {y : Int} {p : S36 → Bool} (h6 : (E l i).f3 ≠ 6) (h : ∀ e w, leads e (E l i) w ↔ (w = y ∧ p e = true)) : ∀ f t w, (orP (orP P (PO l i)) (eachP l p i i y) f t w ↔ orP P (PO l (i + 1)) f t w) := by
  refine PO_step (fun f w => ?_) (fun f t w q => q.1)
  constructor
  · rintro (⟨a, _⟩ | ⟨j, a, b, c⟩)
    · exact absurd a h6
    · exact ⟨rfl, ((h _ _).1 c).1, j, a, b, ((h _ _).1 c).2⟩
  · rintro ⟨_, a, j, b, c, d⟩
    exact .inr ⟨j, b, c, (h _ _).2 ⟨a, d⟩⟩
theorem PO_spawn {l : List S36} {i k : Nat} {P : Props} (h6 : (E l i).f3 = 6) (h : spawnAt l i = some k) : ∀ f t w, (addP (orP P (PO l i)) (k : Int) i 1 f t w ↔ orP P (PO l (i + 1)) f t w) := by
  intro f t w
  rw [← PO_step (P := P) (Q := fun f t w => f = (k : Int) ∧ t = i ∧ w = 1) (fun f w => ?_) (fun f t w q => q.2.1)]
  · exact Iff.rfl
  · constructor
    · rintro (⟨_, k2, a, b, c⟩ | ⟨j, _, _, c⟩)
      · rw [h] at a; cases a; exact ⟨b, rfl, c⟩
      · unfold leads at c; omega
    · rintro ⟨a, _, c⟩
      exact .inl ⟨h6, k, h, a, c⟩
theorem no_spawn {l : List S36} {i : Nat} (h6 : (E l i).f3 = 6) (h : spawnAt l i = none) : ∀ f w, ¬ otherP l f i w := by
  rintro f w (⟨_, k2, a, b, c⟩ | ⟨j, _, _, c⟩)
  · rw [h] at a; cases a
  · unfold leads at c; omega
theorem no_other {l : List S36} {i : Nat} (h6 : (E l i).f3 ≠ 6) (h : ∀ e w, ¬ leads e (E l i) w) : ∀ f w, ¬ otherP l f i w := by
  rintro f w (⟨a, _⟩ | ⟨j, _, _, c⟩)
  · exact h6 a
  · exact h _ _ c
theorem lastN_no {p : Nat → Bool} {m : Nat} (h : p m = false) : lastN p (m + 1) = lastN p m := by
  conv => lhs; unfold lastN
  rw [if_neg (by rw [h]; simp)]
theorem lastN_yes {p : Nat → Bool} {m : Nat} (h : p m = true) : lastN p (m + 1) = some m := by
  unfold lastN
  rw [if_pos h]
def spawnB (l : List S36) (a : Int) (k : Nat) : Bool := !nob (E l k).f2 && handle (E l k).f2 == a
theorem spawn_eq (l : List S36) (t : Nat) : spawnAt l t = lastN (spawnB l (E l t).f4) t := rfl
def okN (ok : Nat → Prop) (n : Nat) (k : Nat) : Prop := ok k ∨ n ≤ k
theorem wrap_pred (k : Nat) (h : k ≤ 65536) : wrap64 ((k : Int) - 1) = (k : Int) - 1 := by rw [wrap64]; omega
theorem meas_pred {k : Nat} (h : k ≤ 65536) : (intOf (Value.int IntKind.i64 (wrap64 ((k : Int) - 1))) + 1).toNat < (intOf (Value.int IntKind.i64 (k : Int)) + 1).toNat := by
  rw [wrap_pred k h]
  show ((k : Int) - 1 + 1).toNat < ((k : Int) + 1).toNat
  omega
/-- Behind a call within a round. -/
theorem kept_round {F : Fnd} {s1 : Nat} {ok : Nat → Prop} {W wr w6 w8 : World} {bl : Nat} (h : Kept W wr (foot F s1 ok)) (hb : Below wr.heap.size wr w6) (hk : Kept w6 w8 (foot F s1 (fun k => okN ok W.heap.size k ∧ k ≠ bl))) : Kept W w8 (foot F s1 ok) :=
  (h.below hb).then_ hk (fun k q => by rcases q with q | q | ⟨⟨q | q, _⟩, q2⟩; exact .inl (.inl q); exact .inl (.inr (.inl q)); exact .inl (.inr (.inr ⟨q, q2⟩)); exact .inr q)
theorem nn_le {N i n : Nat} (hi : i < n) (hN : (N + n * n) * 24 ≤ 140737488355328) : (N + i * n + i) * 24 ≤ 140737488355328 ∧ (N + i * n + 1) * 24 ≤ 140737488355328 ∧ N + i * n + i ≤ N + (i + 1) * n ∧ N + i * n + 1 ≤ N + (i + 1) * n ∧ N + i * n ≤ N + (i + 1) * n := by
  have h1 : (i + 1) * n ≤ n * n := Nat.mul_le_mul_right _ hi
  have h2 : (i + 1) * n = i * n + n := Nat.succ_mul i n
  omega
theorem lead57 {x : S36} (h : x.f3 = 17) (h0 : x.f5 = 0) (e : S36) (w : Int) : leads e x w ↔ (w = 4 ∧ p57 x e = true) := by
  unfold leads p57
  simp only [Bool.and_eq_true, beq_iff_eq]
  omega
theorem lead57n {x : S36} (h : x.f3 = 17) (h0 : x.f5 ≠ 0) (e : S36) (w : Int) : ¬ leads e x w := by
  unfold leads
  omega
theorem lead58 {x : S36} (h : x.f3 = 20) (h0 : x.f5 = 0 ∨ x.f5 = 1) (e : S36) (w : Int) : leads e x w ↔ (w = 5 ∧ p58 x e = true) := by
  unfold leads p58
  simp only [Bool.and_eq_true, Bool.or_eq_true, beq_iff_eq]
  omega
theorem lead58n {x : S36} (h : x.f3 = 20) (h0 : ¬ (x.f5 = 0 ∨ x.f5 = 1)) (e : S36) (w : Int) : ¬ leads e x w := by
  unfold leads
  omega
theorem lead59 {x : S36} (h : x.f3 = 25) (e : S36) (w : Int) : leads e x w ↔ (w = 5 ∧ p59 x e = true) := by
  unfold leads p59
  simp only [Bool.and_eq_true, beq_iff_eq]
  omega
theorem lead60 {x : S36} (h : x.f3 = 23) (e : S36) (w : Int) : leads e x w ↔ (w = 7 ∧ p60 x e = true) := by
  unfold leads p60
  simp only [Bool.and_eq_true, beq_iff_eq, decide_eq_true_eq]
  omega
theorem lead61 {x : S36} (h : x.f3 = 30 ∨ x.f3 = 31 ∨ x.f3 = 32) (e : S36) (w : Int) : leads e x w ↔ (w = 9 ∧ p61 x e = true) := by
  unfold leads p61
  simp only [Bool.and_eq_true, Bool.or_eq_true, beq_iff_eq]
  omega
theorem lead_no {x : S36} {kd : Int} (h : x.f3 = kd) (hn : kd ≠ 17 ∧ kd ≠ 20 ∧ kd ≠ 25 ∧ kd ≠ 23 ∧ kd ≠ 30 ∧ kd ≠ 31 ∧ kd ≠ 32) (e : S36) (w : Int) : ¬ leads e x w := by
  unfold leads
  omega
set_option maxHeartbeats 8000000 in
set_option maxRecDepth 100000 in
theorem others_calls {w : World} {s1 : Nat} {F : Fnd} {l : List S36} {caps : List Int} {ok : Nat → Prop} {P : Props} {N : Nat} (W : World) (h : FS w s1 F l caps ok P N W) (hN : (N + l.length * l.length) * 24 ≤ 140737488355328) :
    Calls Try.prog 36 #[.pointer (some ⟨F.gf, 0, none⟩)] W fun e w' => e = .returned (.tuple #[]) ∧ FS w s1 F l caps (okN ok W.heap.size) (orP P (otherP l)) (N + l.length * l.length) w' ∧ Kept W w' (foot F s1 ok) := by
  have hu75 := Try.underlying75
  have hu36 := Try.underlying36
  have hu22 := Try.underlying22
  have hu34 := Try.underlying34
  obtain ⟨A, c, hv, hl, hCl⟩ := h.ro.hl
  have hbf : W.cell? ⟨F.gf, 0, none⟩ = some (.slice A l.length c) := by obtain ⟨vo, o, wr, H⟩ := h; exact hv ▸ ((blk_cell H.bf 0).trans rfl)
  have HH := Aside0.mk h
  have HCl := Aside0.mk hCl
  have HN := Aside0.mk hN
  have HV := Aside0.mk hv
  clear h hCl hN hv
  go_enter Try.func36, Try.ntmps36
  go_wp2
  go_loopw [11] (fun v11 wr => ∃ i : Nat, v11 = .int .i64 (i : Int) ∧ Aside0 (i ≤ l.length) ∧ Aside0 (FS w s1 F l caps (okN ok W.heap.size) (orP P (PO l i)) (N + i * l.length) wr) ∧ Aside0 (Kept W wr (foot F s1 ok))) (fun v11 _ => l.length - (intOf v11).toNat)
  case atStart => exact ⟨0, rfl, ⟨Nat.zero_le _⟩, ⟨HH.out.imp (fun k q _ _ => .inl q) (fun f t w _ => ⟨.inl, fun q => q.elim id (fun q => absurd q.1 (Nat.not_lt_zero _))⟩) (by omega)⟩, ⟨Kept.refl _ _⟩⟩
  case round =>
    clear HH hbf
    obtain ⟨i, rfl, HI, HF, HK⟩ := hrel
    by_cases hlt : (i : Int) < (l.length : Int)
    · have hi0 : (0 : Int) ≤ (i : Int) := by omega
      have hil : i < l.length := by omega
      have HIL := Aside0.mk hil
      have HW := Aside0.mk (wrap_succ hil HF.out.ro.hn)
      have HLT := Aside0.mk hlt
      obtain ⟨x, HX⟩ : ∃ x, Aside0 (E l i = x) := ⟨_, ⟨rfl⟩⟩
      obtain ⟨ad, e1, hx0, hx1, hx2, hx3, hx4, hx5, hx6, hx7⟩ := at_ev HCl.out HF.out.ro.hb hil HX.out
      cases e1
      clear hil
      go_upto_region 3 with (first
      | ((with_reducible refine gate_dst (N := 3) rfl ?_); refine box_event ?hg (N := 3) ?hd (cs := zE) (t := 36) ?hr ?_; (case hd => rfl); (case hg => rfl); (case hr => first | (go_simp; done) | (go_simp; rfl)); intro bl hbl w5 hbox hb; have HB5 := Aside0.mk hb; have BK5 := Aside0.mk hbox; have HBL := Aside0.mk (show wr.heap.size ≤ bl by omega); clear hb hbox hbl hx0 hx1 hx2 hx3 hx4 hx5 hx6 hx7)
      | ((with_reducible refine gate_store (t := 36) (p := 3) (v := .tmp 15) rfl ?_); refine step_store rfl rfl rfl BK5.out rfl (u := .agg (cE x)) (seg := (cE x).toList) rfl rfl (by kernel_rfl) (by simp [Value.oneCell']) (Nat.le_refl 8) (cur' := cE x) rfl ?_; intro w6 hb6 hg6 hs6; have HB6 := Aside0.mk (below_mput HB5.out hg6 (show wr.heap.size ≤ bl by have := HBL.out; omega) HB5.out.size); have BX := Aside0.mk hb6; have n4 : w6.cell? ⟨bl, 4, none⟩ = some (.int .i64 x.f3) := (blk_cell hb6 4).trans rfl; have n5 : w6.cell? ⟨bl, 5, none⟩ = some (.int .i64 x.f4) := (blk_cell hb6 5).trans rfl; have n6 : w6.cell? ⟨bl, 6, none⟩ = some (.int .i64 x.f5) := (blk_cell hb6 6).trans rfl; clear hb6 hg6 hs6 BK5 HB5))
      have HF6 := Aside0.mk ((HF.out.imp (ok2 := fun k => okN ok W.heap.size k ∧ k ≠ bl) (fun k q _ hk => ⟨q, by have := HBL.out; omega⟩) (fun _ _ _ _ => Iff.rfl) (Nat.le_refl _)).below HB6.out)
      have HFT := Aside0.mk (show ¬ foot F s1 (fun k => okN ok W.heap.size k ∧ k ≠ bl) bl from fun q => by have h1 := HBL.out; have h2 := HF.out.ro.hgf; have h3 := HF.out.ro.hgw; have h4 := HF.out.ro.hs1; rcases q with q | q | q; (· omega); (· omega); (· exact q.1.2 rfl))
      have HBT := Aside0.mk (blk_lt BX.out)
      obtain ⟨kd, HKD⟩ : ∃ kd, Aside0 (x.f3 = kd) := ⟨_, ⟨rfl⟩⟩
      rw [HKD.out] at n4
      by_cases k6 : kd = 6
      · subst k6
        clear n6
        have HS := Aside0.mk (show (E l i).f3 = 6 from by rw [HX.out]; exact HKD.out)
        have HF4 := Aside0.mk (show (E l i).f4 = x.f4 by rw [HX.out])
        go_wp2
        
        obtain ⟨wo, HWO⟩ : ∃ wo : World, Aside0 (wo = w6) := ⟨_, ⟨rfl⟩⟩
        go_loopw [4] (fun v4 wr2 => ∃ m : Nat, v4 = .int .i64 ((m : Int) - 1) ∧ Aside0 (m ≤ i) ∧ Aside0 (spawnAt l i = lastN (spawnB l x.f4) m) ∧ Aside0 (Below wo.heap.size wo wr2)) (fun v4 _ => (intOf v4 + 1).toNat)
        case atStart => exact ⟨i, by rw [wrap_pred i (by have := HF.out.ro.hn; have := HIL.out; omega)], ⟨Nat.le_refl _⟩, ⟨by rw [spawn_eq, HF4.out]⟩, by rw [HWO.out]; exact ⟨Below.refl _ _⟩⟩
        case round =>
          obtain ⟨m, rfl, HM, HS2, HB2⟩ := hrel
          rw [HWO.out] at HB2
          have HB7 := Aside0.mk (below_step HB6.out HB2.out)
          have n52 : wr.cell? ⟨bl, 5, none⟩ = some (.int .i64 x.f4) := (HB2.out.cell (p := ⟨bl, 5, none⟩) HBT.out).trans n5
          clear n4 n5
          cases m with
          | zero =>
            have hd : decide ((0 : Int) ≤ ((0 : Nat) : Int) - 1) = false := rfl
            go_wp2
            go_roundw
            case rel => exact ⟨i + 1, by rw [HW.out], ⟨HIL.out⟩, ⟨(HF.out.below HB7.out).imp (fun k q _ _ => q) (fun f t w _ => PO_none (no_spawn HS.out HS2.out) f t w) (nn_le HIL.out HN.out).2.2.2.2⟩, ⟨HK.out.below HB7.out⟩⟩
            case measure => exact meas_lt (Int.ofNat_lt.1 HLT.out) HW.out
          | succ k =>
            have hk1 : ((k + 1 : Nat) : Int) - 1 = (k : Int) := by omega
            rw [hk1]
            have HK1 := Aside0.mk hk1
            clear hk1
            have hkl : k < l.length := by have := HM.out; have := HIL.out; omega
            have HKL := Aside0.mk hkl
            have HF2 := Aside0.mk (HF6.out.below HB2.out)
            have c0 : wr.cell? ⟨F.gf, 0, none⟩ = some (.slice (some ad) l.length c) := by obtain ⟨vo, o, wr1, H⟩ := HF2.out; exact HV.out ▸ ((blk_cell H.bf 0).trans rfl)
            have k0 : (0 : Int) ≤ (k : Int) := by omega
            have k1 : (k : Int) < (l.length : Int) := by omega
            obtain ⟨y, HY⟩ : ∃ y, Aside0 (E l k = y) := ⟨_, ⟨rfl⟩⟩
            obtain ⟨ad2, e2, hy0, hy1, hy2, hy3, hy4, hy5, hy6, hy7⟩ := at_ev HCl.out HF2.out.ro.hb hkl HY.out
            cases e2
            clear hy0 hy1 hy4 hy5 hy6 hy7 hkl
            by_cases hnb : nob y.f2 = true
            · have HNB := Aside0.mk (show spawnB l x.f4 k = false by unfold spawnB; rw [HY.out, hnb]; rfl)
              unfold nob at hnb
              go_wp2_with (first | ((with_reducible refine gate_dst (N := 5) rfl ?_); refine box_event ?hg (N := 5) ?hd (cs := #[.int .i64 0, .int .i64 0]) (t := 34) ?hr ?_; (case hd => rfl); (case hg => rfl); (case hr => first | (go_simp; done) | (go_simp; rfl)); intro b2 hbl2 w7 hbox hb; have HB8a := Aside0.mk hb; have BK8 := Aside0.mk hbox; have HBL2 := Aside0.mk (show wr.heap.size ≤ b2 by omega); have LT5 := Aside0.mk (World.block_lt_of_cell? _ _ n52); clear hb hbox hbl2 hy2 hy3 c0) | ((with_reducible refine gate_store (t := 34) (p := 5) (v := .tmp 33) rfl ?_); refine step_store rfl rfl rfl BK8.out rfl (u := .agg #[.int .i64 y.f2.f0, .int .i64 y.f2.f1]) (seg := [.int .i64 y.f2.f0, .int .i64 y.f2.f1]) rfl rfl (by kernel_rfl) (by simp [Value.oneCell']) (Nat.le_refl 2) (cur' := #[.int .i64 y.f2.f0, .int .i64 y.f2.f1]) rfl ?_; intro w8 hb8 hg8 hs8; have HB8 := Aside0.mk (below_mput HB8a.out hg8 HBL2.out HB8a.out.size); have p0 : w8.cell? ⟨b2, 0, none⟩ = some (.int .i64 y.f2.f0) := (blk_cell hb8 0).trans rfl; have p1 : w8.cell? ⟨b2, 1, none⟩ = some (.int .i64 y.f2.f1) := (blk_cell hb8 1).trans rfl; replace n52 := (HB8.out.cell (p := ⟨bl, 5, none⟩) LT5.out).trans n52; clear hb8 hg8 hs8 BK8 HB8a))
              go_quiet (fail)
              go_wp2
              go_roundw
              case rel => exact ⟨k, by rw [wrap_pred k (by have := HF6.out.ro.hn; have := HKL.out; omega)], ⟨by have := HM.out; omega⟩, ⟨by rw [HS2.out, lastN_no HNB.out]⟩, by rw [HWO.out]; exact ⟨pw_below_drewN (below_step HB2.out HB8.out) _⟩⟩
              case measure => exact meas_pred (by have := HF6.out.ro.hn; have := HKL.out; omega)
            · have hnb2 : nob y.f2 = false := by simpa using hnb
              clear hnb
              by_cases hh : handle y.f2 = x.f4
              · have HNB := Aside0.mk (show spawnB l x.f4 k = true by unfold spawnB; rw [HY.out, hnb2, hh]; simp)
                unfold nob at hnb2
                have hh2 : (handle y.f2 == x.f4) = true := by simp [hh]
                have HHC := Aside0.mk (fun w2 => handle_calls y.f2 w2)
                clear hh
                go_wp2_with (first | ((with_reducible refine gate_dst (N := 5) rfl ?_); refine box_event ?hg (N := 5) ?hd (cs := #[.int .i64 0, .int .i64 0]) (t := 34) ?hr ?_; (case hd => rfl); (case hg => rfl); (case hr => first | (go_simp; done) | (go_simp; rfl)); intro b2 hbl2 w7 hbox hb; have HB8a := Aside0.mk hb; have BK8 := Aside0.mk hbox; have HBL2 := Aside0.mk (show wr.heap.size ≤ b2 by omega); have LT5 := Aside0.mk (World.block_lt_of_cell? _ _ n52); clear hb hbox hbl2 hy2 hy3 c0) | ((with_reducible refine gate_store (t := 34) (p := 5) (v := .tmp 33) rfl ?_); refine step_store rfl rfl rfl BK8.out rfl (u := .agg #[.int .i64 y.f2.f0, .int .i64 y.f2.f1]) (seg := [.int .i64 y.f2.f0, .int .i64 y.f2.f1]) rfl rfl (by kernel_rfl) (by simp [Value.oneCell']) (Nat.le_refl 2) (cur' := #[.int .i64 y.f2.f0, .int .i64 y.f2.f1]) rfl ?_; intro w8 hb8 hg8 hs8; have HB8 := Aside0.mk (below_mput HB8a.out hg8 HBL2.out HB8a.out.size); have p0 : w8.cell? ⟨b2, 0, none⟩ = some (.int .i64 y.f2.f0) := (blk_cell hb8 0).trans rfl; have p1 : w8.cell? ⟨b2, 1, none⟩ = some (.int .i64 y.f2.f1) := (blk_cell hb8 1).trans rfl; replace n52 := (HB8.out.cell (p := ⟨bl, 5, none⟩) LT5.out).trans n52; clear hb8 hg8 hs8 BK8 HB8a))
                go_region_held3 (fun w' => w'.cell? ⟨b2, 0, none⟩ = some (.int .i64 y.f2.f0) ∧ w'.cell? ⟨b2, 1, none⟩ = some (.int .i64 y.f2.f1) ∧ w'.cell? ⟨bl, 5, none⟩ = some (.int .i64 x.f4) ∧ Below w8.heap.size w8 w') (first | exact ⟨p0, p1, n52, below_drew (Below.refl _ _)⟩ | exact ⟨pw_cell_below hb9 p0, pw_cell_below hb9 p1, pw_cell_below hb9 n52, below_step (below_drew (Below.refl _ _)) hb9⟩) (first | (go_at_call 55; (refine (HHC.out _).mono ?_); rintro e w9 ⟨rfl, hb9⟩))
                have HB9 := Aside0.mk (below_step HB8.out (below_step (below_drew (Below.refl _ _)) hb9))
                have HF9 := Aside0.mk (HF2.out.below HB9.out)
                have HA := Aside0.mk (arrow_calls (k : Int) i 1 w9 HF9.out HIL.out (nn_le HIL.out HN.out).2.1)
                clear n52 p0 p1 hb9
                go_wp2_with (go_at_call 52; (refine HA.out.mono ?_); rintro e w10 ⟨rfl, hf8, hk8⟩; have HF8 := Aside0.mk hf8; have HK8 := Aside0.mk hk8; clear hf8 hk8)
                go_roundw
                case rel => exact ⟨i + 1, by rw [HW.out], ⟨HIL.out⟩, ⟨HF8.out.imp (fun k q _ _ => q.elim (fun q => q.1) (fun q => .inr (Nat.le_trans HK.out.1 (Nat.le_trans HB7.out.size (Nat.le_trans HB9.out.size q))))) (fun f t w _ => PO_spawn HS.out (by rw [HS2.out, lastN_yes HNB.out]) f t w) (nn_le HIL.out HN.out).2.2.2.1⟩, ⟨kept_round HK.out (below_step HB7.out HB9.out) HK8.out⟩⟩
                case measure => exact meas_lt (Int.ofNat_lt.1 HLT.out) HW.out
              · have HNB := Aside0.mk (show spawnB l x.f4 k = false by unfold spawnB; rw [HY.out, hnb2]; simp [hh])
                unfold nob at hnb2
                have hh2 : (handle y.f2 == x.f4) = false := by simp [hh]
                have HHC := Aside0.mk (fun w2 => handle_calls y.f2 w2)
                clear hh
                go_wp2_with (first | ((with_reducible refine gate_dst (N := 5) rfl ?_); refine box_event ?hg (N := 5) ?hd (cs := #[.int .i64 0, .int .i64 0]) (t := 34) ?hr ?_; (case hd => rfl); (case hg => rfl); (case hr => first | (go_simp; done) | (go_simp; rfl)); intro b2 hbl2 w7 hbox hb; have HB8a := Aside0.mk hb; have BK8 := Aside0.mk hbox; have HBL2 := Aside0.mk (show wr.heap.size ≤ b2 by omega); have LT5 := Aside0.mk (World.block_lt_of_cell? _ _ n52); clear hb hbox hbl2 hy2 hy3 c0) | ((with_reducible refine gate_store (t := 34) (p := 5) (v := .tmp 33) rfl ?_); refine step_store rfl rfl rfl BK8.out rfl (u := .agg #[.int .i64 y.f2.f0, .int .i64 y.f2.f1]) (seg := [.int .i64 y.f2.f0, .int .i64 y.f2.f1]) rfl rfl (by kernel_rfl) (by simp [Value.oneCell']) (Nat.le_refl 2) (cur' := #[.int .i64 y.f2.f0, .int .i64 y.f2.f1]) rfl ?_; intro w8 hb8 hg8 hs8; have HB8 := Aside0.mk (below_mput HB8a.out hg8 HBL2.out HB8a.out.size); have p0 : w8.cell? ⟨b2, 0, none⟩ = some (.int .i64 y.f2.f0) := (blk_cell hb8 0).trans rfl; have p1 : w8.cell? ⟨b2, 1, none⟩ = some (.int .i64 y.f2.f1) := (blk_cell hb8 1).trans rfl; replace n52 := (HB8.out.cell (p := ⟨bl, 5, none⟩) LT5.out).trans n52; clear hb8 hg8 hs8 BK8 HB8a))
                go_region_held3 (fun w' => w'.cell? ⟨b2, 0, none⟩ = some (.int .i64 y.f2.f0) ∧ w'.cell? ⟨b2, 1, none⟩ = some (.int .i64 y.f2.f1) ∧ w'.cell? ⟨bl, 5, none⟩ = some (.int .i64 x.f4) ∧ Below w8.heap.size w8 w') (first | exact ⟨p0, p1, n52, below_drew (Below.refl _ _)⟩ | exact ⟨pw_cell_below hb9 p0, pw_cell_below hb9 p1, pw_cell_below hb9 n52, below_step (below_drew (Below.refl _ _)) hb9⟩) (first | (go_at_call 55; (refine (HHC.out _).mono ?_); rintro e w9 ⟨rfl, hb9⟩))
                have HB9 := Aside0.mk (below_step HB8.out (below_step (below_drew (Below.refl _ _)) hb9))
                clear n52 p0 p1 hb9
                go_wp2
                go_roundw
                case rel => exact ⟨k, by rw [wrap_pred k (by have := HF6.out.ro.hn; have := HKL.out; omega)], ⟨by have := HM.out; omega⟩, ⟨by rw [HS2.out, lastN_no HNB.out]⟩, by rw [HWO.out]; exact ⟨below_step HB2.out HB9.out⟩⟩
                case measure => exact meas_pred (by have := HF6.out.ro.hn; have := HKL.out; omega)
      · have q6 : (kd == 6) = false := by simp [k6]
        by_cases k17 : kd = 17
        · subst k17
          by_cases hb0 : x.f5 = 0
          · have HB0 := Aside0.mk hb0; rw [hb0] at n6; clear hb0
            have HA := Aside0.mk (each_calls i 4 57 (Go.Proofs.enters_of Try.func57 (by kernel_rfl) rfl) bl (p57 x) w6 HF6.out HIL.out (nn_le HIL.out HN.out).1 HFT.out HBT.out (fun x2 W2 h2 => cl57_calls x x2 bl W2 (h2.trans BX.out)))
            go_wp2_with (go_at_call 56; (refine HA.out.mono ?_); rintro e w8 ⟨rfl, hf8, hk8⟩; have HF8 := Aside0.mk hf8; have HK8 := Aside0.mk hk8; clear hf8 hk8)
            go_roundw
            case rel => exact ⟨i + 1, by rw [HW.out], ⟨HIL.out⟩, ⟨HF8.out.imp (fun k q _ _ => q.elim (fun q => q.1) (fun q => .inr (Nat.le_trans HK.out.1 (Nat.le_trans HB6.out.size q)))) (fun f t w _ => PO_each (by rw [HX.out]; have := HKD.out; omega) (fun e w => by rw [HX.out]; exact lead57 HKD.out HB0.out e w) f t w) (nn_le HIL.out HN.out).2.2.1⟩, ⟨kept_round HK.out HB6.out HK8.out⟩⟩
            case measure => exact meas_lt (Int.ofNat_lt.1 HLT.out) HW.out
          · have HB0 := Aside0.mk hb0; have hb1 : (x.f5 == 0) = false := by simp [hb0]
            clear hb0
            go_wp2
            go_roundw
            case rel => exact ⟨i + 1, by rw [HW.out], ⟨HIL.out⟩, ⟨(HF.out.below HB6.out).imp (fun k q _ _ => q) (fun f t w _ => PO_none (no_other (by rw [HX.out]; have := HKD.out; omega) (fun e w => by rw [HX.out]; exact lead57n HKD.out HB0.out e w)) f t w) (nn_le HIL.out HN.out).2.2.2.2⟩, ⟨HK.out.below HB6.out⟩⟩
            case measure => exact meas_lt (Int.ofNat_lt.1 HLT.out) HW.out
        · have q17 : (kd == 17) = false := by simp [k17]
          by_cases k20 : kd = 20
          · subst k20
            by_cases hb0 : x.f5 = 0
            · have HB0 := Aside0.mk (show x.f5 = 0 ∨ x.f5 = 1 from .inl hb0); rw [hb0] at n6; clear hb0
              have HA := Aside0.mk (each_calls i 5 58 (Go.Proofs.enters_of Try.func58 (by kernel_rfl) rfl) bl (p58 x) w6 HF6.out HIL.out (nn_le HIL.out HN.out).1 HFT.out HBT.out (fun x2 W2 h2 => cl58_calls x x2 bl W2 (h2.trans BX.out)))
              go_wp2_with (go_at_call 56; (refine HA.out.mono ?_); rintro e w8 ⟨rfl, hf8, hk8⟩; have HF8 := Aside0.mk hf8; have HK8 := Aside0.mk hk8; clear hf8 hk8)
              go_roundw
              case rel => exact ⟨i + 1, by rw [HW.out], ⟨HIL.out⟩, ⟨HF8.out.imp (fun k q _ _ => q.elim (fun q => q.1) (fun q => .inr (Nat.le_trans HK.out.1 (Nat.le_trans HB6.out.size q)))) (fun f t w _ => PO_each (by rw [HX.out]; have := HKD.out; omega) (fun e w => by rw [HX.out]; exact lead58 HKD.out HB0.out e w) f t w) (nn_le HIL.out HN.out).2.2.1⟩, ⟨kept_round HK.out HB6.out HK8.out⟩⟩
              case measure => exact meas_lt (Int.ofNat_lt.1 HLT.out) HW.out
            · by_cases hb1 : x.f5 = 1
              · have HB0 := Aside0.mk (show x.f5 = 0 ∨ x.f5 = 1 from .inr hb1); rw [hb1] at n6; clear hb0 hb1
                have HA := Aside0.mk (each_calls i 5 58 (Go.Proofs.enters_of Try.func58 (by kernel_rfl) rfl) bl (p58 x) w6 HF6.out HIL.out (nn_le HIL.out HN.out).1 HFT.out HBT.out (fun x2 W2 h2 => cl58_calls x x2 bl W2 (h2.trans BX.out)))
                go_wp2_with (go_at_call 56; (refine HA.out.mono ?_); rintro e w8 ⟨rfl, hf8, hk8⟩; have HF8 := Aside0.mk hf8; have HK8 := Aside0.mk hk8; clear hf8 hk8)
                go_roundw
                case rel => exact ⟨i + 1, by rw [HW.out], ⟨HIL.out⟩, ⟨HF8.out.imp (fun k q _ _ => q.elim (fun q => q.1) (fun q => .inr (Nat.le_trans HK.out.1 (Nat.le_trans HB6.out.size q)))) (fun f t w _ => PO_each (by rw [HX.out]; have := HKD.out; omega) (fun e w => by rw [HX.out]; exact lead58 HKD.out HB0.out e w) f t w) (nn_le HIL.out HN.out).2.2.1⟩, ⟨kept_round HK.out HB6.out HK8.out⟩⟩
                case measure => exact meas_lt (Int.ofNat_lt.1 HLT.out) HW.out
              · have HB0 := Aside0.mk (show ¬ (x.f5 = 0 ∨ x.f5 = 1) by omega); have hb2 : (x.f5 == 0) = false := by simp [hb0]
                have hb3 : (x.f5 == 1) = false := by simp [hb1]
                clear hb0 hb1
                go_wp2
                go_roundw
                case rel => exact ⟨i + 1, by rw [HW.out], ⟨HIL.out⟩, ⟨(HF.out.below HB6.out).imp (fun k q _ _ => q) (fun f t w _ => PO_none (no_other (by rw [HX.out]; have := HKD.out; omega) (fun e w => by rw [HX.out]; exact lead58n HKD.out HB0.out e w)) f t w) (nn_le HIL.out HN.out).2.2.2.2⟩, ⟨HK.out.below HB6.out⟩⟩
                case measure => exact meas_lt (Int.ofNat_lt.1 HLT.out) HW.out
          · have q20 : (kd == 20) = false := by simp [k20]
            by_cases k25 : kd = 25
            · subst k25
              have HA := Aside0.mk (each_calls i 5 59 (Go.Proofs.enters_of Try.func59 (by kernel_rfl) rfl) bl (p59 x) w6 HF6.out HIL.out (nn_le HIL.out HN.out).1 HFT.out HBT.out (fun x2 W2 h2 => cl59_calls x x2 bl W2 (h2.trans BX.out)))
              go_wp2_with (go_at_call 56; (refine HA.out.mono ?_); rintro e w8 ⟨rfl, hf8, hk8⟩; have HF8 := Aside0.mk hf8; have HK8 := Aside0.mk hk8; clear hf8 hk8)
              go_roundw
              case rel => exact ⟨i + 1, by rw [HW.out], ⟨HIL.out⟩, ⟨HF8.out.imp (fun k q _ _ => q.elim (fun q => q.1) (fun q => .inr (Nat.le_trans HK.out.1 (Nat.le_trans HB6.out.size q)))) (fun f t w _ => PO_each (by rw [HX.out]; have := HKD.out; omega) (fun e w => by rw [HX.out]; exact lead59 HKD.out e w) f t w) (nn_le HIL.out HN.out).2.2.1⟩, ⟨kept_round HK.out HB6.out HK8.out⟩⟩
              case measure => exact meas_lt (Int.ofNat_lt.1 HLT.out) HW.out
            · have q25 : (kd == 25) = false := by simp [k25]
              by_cases k23 : kd = 23
              · subst k23
                have HA := Aside0.mk (each_calls i 7 60 (Go.Proofs.enters_of Try.func60 (by kernel_rfl) rfl) bl (p60 x) w6 HF6.out HIL.out (nn_le HIL.out HN.out).1 HFT.out HBT.out (fun x2 W2 h2 => cl60_calls x x2 bl W2 (h2.trans BX.out)))
                go_wp2_with (go_at_call 56; (refine HA.out.mono ?_); rintro e w8 ⟨rfl, hf8, hk8⟩; have HF8 := Aside0.mk hf8; have HK8 := Aside0.mk hk8; clear hf8 hk8)
                go_roundw
                case rel => exact ⟨i + 1, by rw [HW.out], ⟨HIL.out⟩, ⟨HF8.out.imp (fun k q _ _ => q.elim (fun q => q.1) (fun q => .inr (Nat.le_trans HK.out.1 (Nat.le_trans HB6.out.size q)))) (fun f t w _ => PO_each (by rw [HX.out]; have := HKD.out; omega) (fun e w => by rw [HX.out]; exact lead60 HKD.out e w) f t w) (nn_le HIL.out HN.out).2.2.1⟩, ⟨kept_round HK.out HB6.out HK8.out⟩⟩
                case measure => exact meas_lt (Int.ofNat_lt.1 HLT.out) HW.out
              · have q23 : (kd == 23) = false := by simp [k23]
                by_cases k30 : kd = 30
                · subst k30
                  have HA := Aside0.mk (each_calls i 9 61 (Go.Proofs.enters_of Try.func61 (by kernel_rfl) rfl) bl (p61 x) w6 HF6.out HIL.out (nn_le HIL.out HN.out).1 HFT.out HBT.out (fun x2 W2 h2 => cl61_calls x x2 bl W2 (h2.trans BX.out)))
                  go_wp2_with (go_at_call 56; (refine HA.out.mono ?_); rintro e w8 ⟨rfl, hf8, hk8⟩; have HF8 := Aside0.mk hf8; have HK8 := Aside0.mk hk8; clear hf8 hk8)
                  go_roundw
                  case rel => exact ⟨i + 1, by rw [HW.out], ⟨HIL.out⟩, ⟨HF8.out.imp (fun k q _ _ => q.elim (fun q => q.1) (fun q => .inr (Nat.le_trans HK.out.1 (Nat.le_trans HB6.out.size q)))) (fun f t w _ => PO_each (by rw [HX.out]; have := HKD.out; omega) (fun e w => by rw [HX.out]; exact lead61 (by have := HKD.out; omega) e w) f t w) (nn_le HIL.out HN.out).2.2.1⟩, ⟨kept_round HK.out HB6.out HK8.out⟩⟩
                  case measure => exact meas_lt (Int.ofNat_lt.1 HLT.out) HW.out
                · have q30 : (kd == 30) = false := by simp [k30]
                  by_cases k31 : kd = 31
                  · subst k31
                    have HA := Aside0.mk (each_calls i 9 61 (Go.Proofs.enters_of Try.func61 (by kernel_rfl) rfl) bl (p61 x) w6 HF6.out HIL.out (nn_le HIL.out HN.out).1 HFT.out HBT.out (fun x2 W2 h2 => cl61_calls x x2 bl W2 (h2.trans BX.out)))
                    go_wp2_with (go_at_call 56; (refine HA.out.mono ?_); rintro e w8 ⟨rfl, hf8, hk8⟩; have HF8 := Aside0.mk hf8; have HK8 := Aside0.mk hk8; clear hf8 hk8)
                    go_roundw
                    case rel => exact ⟨i + 1, by rw [HW.out], ⟨HIL.out⟩, ⟨HF8.out.imp (fun k q _ _ => q.elim (fun q => q.1) (fun q => .inr (Nat.le_trans HK.out.1 (Nat.le_trans HB6.out.size q)))) (fun f t w _ => PO_each (by rw [HX.out]; have := HKD.out; omega) (fun e w => by rw [HX.out]; exact lead61 (by have := HKD.out; omega) e w) f t w) (nn_le HIL.out HN.out).2.2.1⟩, ⟨kept_round HK.out HB6.out HK8.out⟩⟩
                    case measure => exact meas_lt (Int.ofNat_lt.1 HLT.out) HW.out
                  · have q31 : (kd == 31) = false := by simp [k31]
                    by_cases k32 : kd = 32
                    · subst k32
                      have HA := Aside0.mk (each_calls i 9 61 (Go.Proofs.enters_of Try.func61 (by kernel_rfl) rfl) bl (p61 x) w6 HF6.out HIL.out (nn_le HIL.out HN.out).1 HFT.out HBT.out (fun x2 W2 h2 => cl61_calls x x2 bl W2 (h2.trans BX.out)))
                      go_wp2_with (go_at_call 56; (refine HA.out.mono ?_); rintro e w8 ⟨rfl, hf8, hk8⟩; have HF8 := Aside0.mk hf8; have HK8 := Aside0.mk hk8; clear hf8 hk8)
                      go_roundw
                      case rel => exact ⟨i + 1, by rw [HW.out], ⟨HIL.out⟩, ⟨HF8.out.imp (fun k q _ _ => q.elim (fun q => q.1) (fun q => .inr (Nat.le_trans HK.out.1 (Nat.le_trans HB6.out.size q)))) (fun f t w _ => PO_each (by rw [HX.out]; have := HKD.out; omega) (fun e w => by rw [HX.out]; exact lead61 (by have := HKD.out; omega) e w) f t w) (nn_le HIL.out HN.out).2.2.1⟩, ⟨kept_round HK.out HB6.out HK8.out⟩⟩
                      case measure => exact meas_lt (Int.ofNat_lt.1 HLT.out) HW.out
                    · have q32 : (kd == 32) = false := by simp [k32]
                      have HNK := Aside0.mk (show kd ≠ 17 ∧ kd ≠ 20 ∧ kd ≠ 25 ∧ kd ≠ 23 ∧ kd ≠ 30 ∧ kd ≠ 31 ∧ kd ≠ 32 from ⟨k17, k20, k25, k23, k30, k31, k32⟩)
                      have HK6 := Aside0.mk (show x.f3 ≠ 6 by have := HKD.out; omega)
                      clear k6 k17 k20 k25 k23 k30 k31 k32
                      go_wp2
                      go_roundw
                      case rel => exact ⟨i + 1, by rw [HW.out], ⟨HIL.out⟩, ⟨(HF.out.below HB6.out).imp (fun k q _ _ => q) (fun f t w _ => PO_none (no_other (by rw [HX.out]; exact HK6.out) (fun e w => by rw [HX.out]; exact lead_no HKD.out HNK.out e w)) f t w) (nn_le HIL.out HN.out).2.2.2.2⟩, ⟨HK.out.below HB6.out⟩⟩
                      case measure => exact meas_lt (Int.ofNat_lt.1 HLT.out) HW.out
    · have hi : i = l.length := by have := HI.out; omega
      subst hi
      go_wp2
      go_end0
      exact ⟨rfl, HF.out.imp (fun k q _ _ => q) (fun f t w ht => ⟨fun q => q.imp id (fun q => q.2), fun q => q.imp id (fun q => ⟨ht, q⟩)⟩) (Nat.le_refl _), HK.out⟩
end Go.Proofs.Ytkbfijkohngjjaa.Od

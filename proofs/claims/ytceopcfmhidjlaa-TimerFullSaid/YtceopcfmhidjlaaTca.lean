/- Timers told by what they hold (TP): is, arm, New. Conditions: each theorem's own. -/
import Derived.Test.YtceopcfmhidjlaaTgd
import Derived.Test.YtceopcfmhidjlaaTad
import Derived.Carry
set_option linter.unusedVariables false
set_option linter.unusedSimpArgs false
namespace Go.Proofs.Ytceopcfmhidjlaa.PTimerPlays
open Go.RowKit Go.Proofs.Ytceopcfmhidjlaa.Ef Go.Proofs.Ytceopcfmhidjlaa.Mp Go.Proofs.Ytceopcfmhidjlaa.Hp Go.Proofs.YtceopcfmhidjlaaW.PrintWords Go.Proofs.YtceopcfmhidjlaaW.PrintLast Go.Proofs.YtceopcfmhidjlaaW.PrintMore

/-- At p lie timers that hold this, their blocks ok ones. -/
def TP (w : World) (base p : Nat) (ok : Nat → Prop) (S : TS) : Prop := ∃ P v ids own gs, Pl.p P = p ∧ P.ok = ok ∧ TA w base P v S.last S.hp S.next S.nv ids own gs ∧ Good S ids own gs
section
variable {w w' : World} {base p : Nat} {ok : Nat → Prop} {S : TS}
theorem TP.kept {X : Nat → Prop} (h : TP w base p ok S) (hk : Kept w w' X) (hS : ∀ k, ok k → ¬ X k) : TP w' base p ok S := by
  obtain ⟨P, v, ids, own, gs, h1, rfl, h3, h4⟩ := h
  exact ⟨P, v, ids, own, gs, h1, rfl, h3.kept hk hS, h4⟩
theorem TP.below (h : TP w base p ok S) (hb : Below w.heap.size w w') : TP w' base p ok S := h.kept (Kept.of_below hb (fun _ => False)) (fun _ _ => id)
theorem TP.drew (h : TP w base p ok S) : TP w.drew base p ok S := h.below (below_drew (Below.refl _ _))
theorem TP.drewN (h : TP w base p ok S) (n : Nat) : TP (w.drewN n) base p ok S := h.below (pw_below_drewN (Below.refl _ _) n)
theorem TP.bound (h : TP w base p ok S) : ∀ k, ok k → base ≤ k ∧ k < w.heap.size := by
  obtain ⟨P, v, ids, own, gs, h1, rfl, h3, h4⟩ := h
  exact fun k hk => ⟨h3.fine.low k hk, h3.fine.bound k hk⟩
theorem TP.le (h : TP w base p ok S) : base ≤ w.heap.size := by
  obtain ⟨P, v, ids, own, gs, h1, rfl, h3, h4⟩ := h
  exact h3.le
theorem TP.new (h : TP w base p ok S) {k : Nat} (hk : w.heap.size ≤ k) : ¬ ok k := fun q => by have := (h.bound k q).2; omega
theorem TP.fr (h : TP w base p ok S) : Fr base ok w w := Fr.refl h.le (fun k q => (h.bound k q).1)
theorem TP.grown (h : TP w base p ok S) {g : Nat} (hg : w.grownBy w' (some g)) (hne : ¬ ok g) : TP w' base p ok S := h.kept (grown_kept hg) (fun k hk e => hne (by rw [← e]; exact hk))
theorem TP.lower {base' : Nat} (h : TP w base p ok S) (hb : base' ≤ base) : TP w base' p ok S := by
  obtain ⟨P, v, ids, own, gs, h1, rfl, h3, h4⟩ := h
  exact ⟨P, v, ids, own, gs, h1, rfl, ⟨{ h3.fine with low := fun k q => Nat.le_trans hb (h3.fine.low k q) }, h3.blk, h3.heap.lower hb, Kd.R_lower h3.row hb, h3.mi, h3.mo, h3.mg⟩, h4⟩
theorem TP.blk (h : TP w base p ok S) : ∃ q v bi bo bg, w.heap[p]? = some (.cells (cS S.last q v bi bo bg) 58 (0, 0)) := by
  obtain ⟨P, v, ids, own, gs, rfl, _, h3, _⟩ := h
  exact ⟨_, _, _, _, _, h3.blk⟩
theorem Pl.okH_ok {P : Pl} {H' : Nat → Prop} {n k : Nat} (hn : ∀ k, H' k → P.H k ∨ n ≤ k) (h : Pl.ok { P with H := H' } k) : P.ok k ∨ n ≤ k := by
  rcases h with q | q | q | q | q | q
  · exact .inl (.inl q)
  · exact .inl (.inr (.inl q))
  · exact .inl (.inr (.inr (.inl q)))
  · exact .inl (.inr (.inr (.inr (.inl q))))
  · exact (hn k q).imp (fun r => .inr (.inr (.inr (.inr (.inl r))))) id
  · exact .inl (.inr (.inr (.inr (.inr (.inr q)))))
theorem Pl.okN_ok {P : Pl} {N' : Nat → Prop} {n k : Nat} (hn : ∀ k, N' k → P.N k ∨ n ≤ k) (h : Pl.ok { P with N := N' } k) : P.ok k ∨ n ≤ k := by
  rcases h with q | q | q | q | q | q
  · exact .inl (.inl q)
  · exact .inl (.inr (.inl q))
  · exact .inl (.inr (.inr (.inl q)))
  · exact .inl (.inr (.inr (.inr (.inl q))))
  · exact .inl (.inr (.inr (.inr (.inr (.inl q)))))
  · exact (hn k q).imp (fun r => .inr (.inr (.inr (.inr (.inr r))))) id
end
theorem arm_calls (base p : Nat) (ok : Nat → Prop) (S : TS) (x : Tm) (w : World) (H : TP w base p ok S) (F : Fresh S x) (hn1 : S.next ≤ 1000000000000000000) :
    Calls Try.prog 33 #[.pointer (some ⟨p, 0, none⟩), .agg (cT x)] w fun e w' => ∃ ok', e = .returned (.tuple #[]) ∧ TP w' base p ok' (S.arm x) ∧ (∀ k, ok' k → ok k ∨ w.heap.size ≤ k) ∧ Fr base ok w w' := by
  obtain ⟨P, v, ids, own, gs, rfl, rfl, hA, hG⟩ := H
  have hG2 := hG.arm F
  have hlen : S.hp.length + S.nv.length < 1024 := by have := F.n; simp [TS.all] at this; exact this
  obtain ⟨xi, xk, ⟨xs, xg⟩, xc, xt, xn, xp⟩ := x
  cases xn with
  | false =>
    refine (arm_due base P v S.last S.hp S.next S.nv ids own gs xi xk xs xg xc xt xp w hA (fun n hn => by have := hG.num n hn; omega) (by omega) hG.n0 hn1).mono ?_
    rintro e w' ⟨H', he, hT, hn, hF⟩
    exact ⟨Pl.ok { P with H := H' }, he, ⟨{ P with H := H' }, v, _, _, _, rfl, rfl, hT, hG2⟩, fun k q => Pl.okH_ok hn q, hF⟩
  | true =>
    refine (arm_never base P v S.last S.hp S.next S.nv ids own gs xi xk xs xg xc xt xp w hA (by omega)).mono ?_
    rintro e w' ⟨N', v', he, hT, hn, hF⟩
    exact ⟨Pl.ok { P with N := N' }, he, ⟨{ P with N := N' }, v', _, _, _, rfl, rfl, hT, hG2⟩, fun k q => Pl.okN_ok hn q, hF⟩
set_option maxHeartbeats 1000000 in
theorem is_calls (base p : Nat) (ok : Nat → Prop) (S : TS) (w : World) (H : TP w base p ok S) :
    Calls Try.prog 26 #[.pointer (some ⟨p, 0, none⟩)] w fun e w' => e = .returned (.bool true) ∧ w = w' := by
  obtain ⟨q, v, bi, bo, bg, hb⟩ := H.blk
  have hp0 : w.cell? ⟨p, 0, none⟩ = some (.bool true) := (blk_cell hb 0).trans rfl
  clear H hb
  go_enter Try.func26, Try.ntmps26
  go_wp2
  go_ret
  exact ⟨rfl, rfl⟩
def TS.nil : TS := ⟨0, [], 0, []⟩
theorem good_nil : Good TS.nil [] [] [] := ⟨.refl _, .refl _, .refl _, List.nodup_nil, List.nodup_nil, fun _ h => (by cases h), fun _ h => (by cases h), fun _ h => (by cases h), fun _ h => (by cases h), Int.le_refl _, Int.le_refl _, by decide⟩
set_option maxHeartbeats 1000000 in
set_option maxRecDepth 100000 in
theorem new_tp (w : World) : Calls Try.prog 10 #[] w fun e w' => ∃ p ok', e = .returned (.pointer (some ⟨p, 0, none⟩)) ∧ TP w' w.heap.size p ok' TS.nil ∧ Below w.heap.size w w' := by
  have hmm := @run_makeMap Try.prog
  have hu1 := Try.underlying54
  have hu2 := Try.underlying55
  have hu3 := Try.underlying56
  have hu4 := Try.underlying58
  go_enter Try.func10, Try.ntmps10
  go_wp2_with (go_at_call 25; (refine (HP.new _).mono ?_); rintro e w1 ⟨q, rfl, hh, hb⟩; have HH := Aside0.mk hh; have HB := Aside0.mk hb; clear hh hb)
  have hmo : Obj.map #[] 0 = Obj.map #[] 0 := rfl
  have e1 : (w1.alloc (.map #[] 0)).heap.size = w1.heap.size + 1 := Array.size_push _
  have e2 : ((w1.alloc (.map #[] 0)).alloc (.map #[] 0)).heap.size = w1.heap.size + 1 + 1 := by rw [← e1]; exact Array.size_push _
  have e3 : (((w1.alloc (.map #[] 0)).alloc (.map #[] 0)).alloc (.map #[] 0)).heap.size = w1.heap.size + 1 + 1 + 1 := by rw [← e2]; exact Array.size_push _
  have hm1 := MapS.new (enc := Value.int .i64) w1
  have hm2 := MapS.new (enc := Value.int .i64) (w1.alloc (.map #[] 0))
  have hm3 := MapOf.new (enc := enc2) ((w1.alloc (.map #[] 0)).alloc (.map #[] 0))
  rw [e1] at hm2
  rw [e2] at hm3
  have b1 := below_alloc (Below.refl w1.heap.size w1) (.map #[] 0)
  have b2 := below_alloc (Below.refl (w1.alloc (.map #[] 0)).heap.size (w1.alloc (.map #[] 0))) (.map #[] 0)
  have b3 := below_alloc (Below.refl ((w1.alloc (.map #[] 0)).alloc (.map #[] 0)).heap.size ((w1.alloc (.map #[] 0)).alloc (.map #[] 0))) (.map #[] 0)
  generalize hW1 : w1.alloc (.map #[] 0) = W1 at *
  generalize hW2 : W1.alloc (.map #[] 0) = W2 at *
  generalize hW3 : W2.alloc (.map #[] 0) = W3 at *
  have b4 := below_alloc (Below.refl W3.heap.size W3) (.cells (cS 0 q (.slice none 0 0) w1.heap.size (w1.heap.size + 1) (w1.heap.size + 1 + 1)) 58 (0, 0))
  have e4 : (W3.alloc (.cells (cS 0 q (.slice none 0 0) w1.heap.size (w1.heap.size + 1) (w1.heap.size + 1 + 1)) 58 (0, 0))).heap.size = w1.heap.size + 1 + 1 + 1 + 1 := by rw [← e3]; exact Array.size_push _
  have hbk := blk_new W3 (.cells (cS 0 q (.slice none 0 0) w1.heap.size (w1.heap.size + 1) (w1.heap.size + 1 + 1)) 58 (0, 0))
  rw [e3] at hbk
  have hh := ((HH.out.below b1).below b2).below b3
  have hle := HB.out.size
  go_ret
  refine ⟨w1.heap.size + 1 + 1 + 1, _, rfl, ⟨⟨w1.heap.size + 1 + 1 + 1, q, w1.heap.size, w1.heap.size + 1, w1.heap.size + 1 + 1, fun k => w.heap.size ≤ k ∧ k < w1.heap.size, fun _ => False⟩, .slice none 0 0, [], [], [], rfl, rfl, ?_, good_nil⟩, ?_⟩
  · refine ⟨⟨fun k hk => ?_, fun k hk => ?_, by show w1.heap.size + 1 + 1 + 1 ≠ w1.heap.size; omega, by show w1.heap.size + 1 + 1 + 1 ≠ w1.heap.size + 1; omega, by show w1.heap.size + 1 + 1 + 1 ≠ w1.heap.size + 1 + 1; omega, by show w1.heap.size ≠ w1.heap.size + 1; omega, by show w1.heap.size ≠ w1.heap.size + 1 + 1; omega, by show w1.heap.size + 1 ≠ w1.heap.size + 1 + 1; omega, fun k hk => ?_, fun k hk => hk.elim⟩, hbk, hh.below b4, Kd.R_nil _ _ _ _ _, ((hm1.below b2).below b3).below b4, (hm2.below b3).below b4, hm3.below b4⟩
    · rcases hk with q | q | q | q | q | q <;> simp only at q <;> omega
    · rw [e4]
      rcases hk with q | q | q | q | q | q <;> simp only at q <;> omega
    · obtain ⟨h1, h2⟩ := hk
      have h3 : k < w1.heap.size := h2
      exact ⟨by show k ≠ w1.heap.size + 1 + 1 + 1; omega, by show k ≠ w1.heap.size; omega, by show k ≠ w1.heap.size + 1; omega, by show k ≠ w1.heap.size + 1 + 1; omega, id⟩
  · exact (((HB.out.trans (below_up b1 hle)).trans (below_up b2 (Nat.le_trans hle b1.size))).trans (below_up b3 (Nat.le_trans (Nat.le_trans hle b1.size) b2.size))).trans (below_up b4 (Nat.le_trans (Nat.le_trans (Nat.le_trans hle b1.size) b2.size) b3.size))
end Go.Proofs.Ytceopcfmhidjlaa.PTimerPlays

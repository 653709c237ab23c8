/- The law TimerFull, walked. Conditions: none. -/
import Derived.Test.YtceopcfmhidjlaaTa3
set_option linter.unusedVariables false
set_option linter.unusedSimpArgs false
namespace Go.Proofs.Ytceopcfmhidjlaa.PTimerPlays
open Go.RowKit Go.Proofs.Ytceopcfmhidjlaa.Ef Go.Proofs.Ytceopcfmhidjlaa.Mp Go.Proofs.Ytceopcfmhidjlaa.Hp Go.Proofs.YtceopcfmhidjlaaW.PrintWords Go.Proofs.YtceopcfmhidjlaaW.PrintLast Go.Proofs.YtceopcfmhidjlaaW.PrintMore

theorem stop_ok (base p : Nat) (ok : Nat → Prop) (S : TS) (x : Tm) (w : World) (H : TP w base p ok S) (hx : x ∈ S.all) (hk : x.f1 ≠ 1) :
    Calls Try.prog 14 #[.pointer (some ⟨p, 0, none⟩), .int .i64 x.f0] w fun e w' => ∃ ok', e = .returned (.bool true) ∧ TP w' base p ok' (S.rm x.f0) ∧ (∀ k, ok' k → ok k ∨ w.heap.size ≤ k) ∧ Fr base ok w w' := by
  rcases List.mem_append.1 hx with q | q
  · obtain ⟨n, hn, rfl⟩ := List.mem_map.1 q
    exact stop_heap base p ok S n w H hn hk
  · exact stop_never base p ok S x w H q hk
theorem begin_last (S : TS) (x : Tm) (now t : Int) : (S.begin x now t).last = S.last + 1 := by unfold TS.begin; rw [arm_last]
theorem begin_next (S : TS) (x : Tm) (now t : Int) : (S.begin x now t).next ≤ S.next + 1 := (arm_next ({ S with last := S.last + 1 } : TS) _).2
theorem begin_all (S : TS) (x : Tm) (now t : Int) : (S.begin x now t).all.Perm (S.all ++ [{ x with f0 := S.last + 1, f4 := ltr now t, f5 := nvr now t }]) := arm_all _ _
/-- Behind i Afters. -/
structure Run (S : TS) (i : Nat) : Prop where
  last : S.last = i
  len : S.all.length = i
  next : S.next ≤ i
  kind : ∀ x ∈ S.all, x.f1 = 2
  has : ∀ k : Nat, 1 ≤ k → k ≤ i → ∃ x ∈ S.all, x.f0 = k
theorem Run.nil : Run TS.nil 0 := ⟨rfl, rfl, Int.le_refl _, fun _ h => (by cases h), fun k h1 h2 => by omega⟩
theorem Run.step {S : TS} {i : Nat} (R : Run S i) (ch now t : Int) : Run (S.begin ⟨0, 2, ⟨0, 0⟩, ch, 0, false, 0⟩ now t) (i + 1) := by
  have hp := begin_all S ⟨0, 2, ⟨0, 0⟩, ch, 0, false, 0⟩ now t
  refine ⟨by rw [begin_last, R.last]; omega, by rw [hp.length_eq, List.length_append, R.len]; rfl, by have := begin_next S ⟨0, 2, ⟨0, 0⟩, ch, 0, false, 0⟩ now t; have := R.next; omega, fun x hx => ?_, fun k h1 h2 => ?_⟩
  · rcases List.mem_append.1 (hp.mem_iff.1 hx) with q | q
    · exact R.kind x q
    · rw [List.mem_singleton.1 q]
  · by_cases e : k ≤ i
    · obtain ⟨x, hx, e⟩ := R.has k h1 e
      exact ⟨x, hp.mem_iff.2 (List.mem_append.2 (.inl hx)), e⟩
    · exact ⟨_, hp.mem_iff.2 (List.mem_append.2 (.inr List.mem_cons_self)), by show S.last + 1 = (k : Int); rw [R.last]; omega⟩
theorem Run.quiet {S : TS} {i : Nat} (R : Run S i) (k : Int × Int) : S.sleeps k = false := by
  refine decide_eq_false (fun ⟨y, hy, _⟩ => ?_)
  have h := List.mem_filter.1 hy
  have := R.kind y h.1
  simp [this] at h
def u64 (x : Int) : Prop := 0 ≤ x ∧ x < 18446744073709551616
instance (x : Int) : Decidable (u64 x) := inferInstanceAs (Decidable (_ ∧ _))
def rotalaw14_TimerFull.f (k : Nat) (now t : Int) : Option Bool := if u64 now ∧ u64 t then some true else none
set_option maxHeartbeats 4000000 in
set_option maxRecDepth 100000 in
theorem rotalaw14_TimerFull.calls (k : Nat) (now t : Int) (r : Bool) (w : World) (h : rotalaw14_TimerFull.f k now t = some r) :
    Calls Try.prog 3 #[.int .u64 now, .int .u64 t] w fun e w' => e = .returned (.bool r) ∧ Below w.heap.size w w' := by
  have hr : (u64 now ∧ u64 t) ∧ r = true := by
    unfold rotalaw14_TimerFull.f at h
    by_cases hc : u64 now ∧ u64 t
    · rw [if_pos hc] at h; exact ⟨hc, (Option.some.inj h).symm⟩
    · rw [if_neg hc] at h; cases h
  obtain ⟨⟨hn, ht⟩, rfl⟩ := hr
  have HN := Aside0.mk hn
  have HT := Aside0.mk ht
  clear h hn ht
  go_enter Try.func3, Try.ntmps3
  go_wp2_with (go_at_call 10; (refine (new_tp _).mono ?_); rintro e w1 ⟨p, ok, rfl, hT, hb⟩; have HP0 := Aside0.mk hT; have HB := Aside0.mk hb; clear hT hb)
  go_loopw [6] (fun v6 wr => ∃ (i : Nat) (ok' : Nat → Prop) (S : TS), v6 = .int .i64 (i : Int) ∧ Aside0 (i ≤ 1024 ∧ Run S i) ∧ Aside0 (TP wr w.heap.size p ok' S) ∧ Aside0 (Below w.heap.size w wr)) (fun v6 _ => 1024 - (intOf v6).toNat)
  case atStart => exact ⟨0, ok, TS.nil, rfl, ⟨by omega, Run.nil⟩, HP0, HB⟩
  case round =>
    clear HP0 HB
    obtain ⟨i, ok', S, rfl, HJ, HP, HB⟩ := hrel
    have hL := HJ.out.2.last
    have hlen := HJ.out.2.len
    have hnx := HJ.out.2.next
    by_cases hlt : (i : Int) < 1024
    · have hA := after_ok w.heap.size p ok' S (i : Int) now t wr HP.out (by omega) (by omega) (by omega) HN.out.1 HN.out.2 HT.out.1 HT.out.2
      rw [hL] at hA
      have HA := Aside0.mk hA
      clear hA hL hlen hnx
      go_wp2_with (go_at_call 11; (refine HA.out.mono ?_); rintro e w2 ⟨ok2, rfl, h1, h2, h3⟩; have H1 := Aside0.mk h1; have H3 := Aside0.mk (HB.out.trans h3.b); clear h1 h2 h3)
      go_roundw
      case rel => exact ⟨i + 1, ok2, _, by go_num, ⟨by omega, HJ.out.2.step _ _ _⟩, H1, H3⟩
      case measure => simp [intOf]; omega
    · have hi : i = 1024 := by have := HJ.out.1; omega
      have hfull : S.full := .inl (by rw [hlen, hi]; exact Nat.le_refl _)
      have hq := HJ.out.2.quiet (0, 0)
      obtain ⟨x, hx, hx3⟩ := HJ.out.2.has 3 (by omega) (by omega)
      have hxk : x.f1 ≠ 1 := by rw [HJ.out.2.kind x hx]; decide
      have C1 := Aside0.mk (fun w2 H => after_full w.heap.size p ok' S 0 now t w2 H hfull)
      have C2 := Aside0.mk (fun w2 H => every_full w.heap.size p ok' S 0 now 1 w2 H hfull (by decide))
      have C3 := Aside0.mk (fun w2 H => every_zero w.heap.size p ok' S 0 now w2 H)
      have C4 := Aside0.mk (fun w2 H => sleep_full w.heap.size p ok' S 0 0 now t w2 H hq hfull)
      have C5 := Aside0.mk (fun w2 H => stop_ok w.heap.size p ok' S x w2 H hx hxk)
      rw [hx3] at C5
      have hl2 : (S.rm 3).all.length < 1024 := by
        rw [rm_all, ← hi, ← hlen]
        have hp := List.filter_sublist (l := S.all) (p := fun x => x.f0 != 3)
        refine Nat.lt_of_le_of_ne hp.length_le (fun e => ?_)
        have := (List.mem_filter.1 ((hp.eq_of_length e).symm ▸ hx)).2
        simp [hx3] at this
      have C6 := Aside0.mk (fun ok2 w2 H => after_ok w.heap.size p ok2 (S.rm 3) 0 now t w2 H hl2 (by show S.last < _; omega) (by show S.next ≤ _; omega) HN.out.1 HN.out.2 HT.out.1 HT.out.2)
      have hl3 : (S.rm 3).last + 1 = 1025 := by show S.last + 1 = 1025; omega
      rw [hl3] at C6
      have TK1 := Aside0.mk trivial
      clear hL hlen hnx hfull hq hx hx3 hxk hl2 hl3
      go_wp2_with (first
        | (go_at_call 11; clear TK1; (refine (C1.out _ HP.out).mono ?_); rintro e w2 ⟨rfl, hb⟩; have HP2 := Aside0.mk (HP.out.below hb); have HB2 := Aside0.mk (HB.out.trans (below_up hb HP.out.le)); have TK2 := Aside0.mk trivial; clear hb HP HB)
        | (go_at_call 12; clear TK2; (refine (C2.out _ HP2.out).mono ?_); rintro e w3 ⟨rfl, hb⟩; have HP3 := Aside0.mk (HP2.out.below hb); have HB3 := Aside0.mk (HB2.out.trans (below_up hb HP2.out.le)); have TK3 := Aside0.mk trivial; clear hb HP2 HB2)
        | (go_at_call 12; clear TK3; (refine (C3.out _ HP3.out).mono ?_); rintro e w4 ⟨rfl, rfl⟩)
        | (go_at_call 13; (refine (C4.out _ HP3.out).mono ?_); rintro e w5 ⟨rfl, hb⟩; have HP5 := Aside0.mk (HP3.out.below hb); have HB5 := Aside0.mk (HB3.out.trans (below_up hb HP3.out.le)); clear hb HP3 HB3)
        | (go_at_call 14; (refine (C5.out _ HP5.out).mono ?_); rintro e w6 ⟨ok2, rfl, h1, h2, h3⟩; have HP6 := Aside0.mk h1; have HB6 := Aside0.mk (HB5.out.trans h3.b); have TK4 := Aside0.mk trivial; clear h1 h2 h3 HP5 HB5)
        | (go_at_call 11; clear TK4; (refine (C6.out _ _ HP6.out).mono ?_); rintro e w7 ⟨ok3, rfl, h1, h2, h3⟩; have HB7 := Aside0.mk (HB6.out.trans h3.b); clear h1 h2 h3 HP6 HB6))
      go_ret
      exact ⟨rfl, HB7.out⟩
end Go.Proofs.Ytceopcfmhidjlaa.PTimerPlays

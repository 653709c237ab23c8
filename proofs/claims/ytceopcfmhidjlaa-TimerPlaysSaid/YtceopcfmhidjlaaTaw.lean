/- Due of timers that have one or none; awake. Conditions: each theorem's own. -/
import Derived.Test.YtceopcfmhidjlaaTdu
set_option linter.unusedVariables false
set_option linter.unusedSimpArgs false
namespace Go.Proofs.Ytceopcfmhidjlaa.PTimerPlays
open Go.RowKit Go.Proofs.Ytceopcfmhidjlaa.Ef Go.Proofs.Ytceopcfmhidjlaa.Mp Go.Proofs.Ytceopcfmhidjlaa.Hp Go.Proofs.YtceopcfmhidjlaaW.PrintWords Go.Proofs.YtceopcfmhidjlaaW.PrintLast Go.Proofs.YtceopcfmhidjlaaW.PrintMore

theorem path_none {now : Int} {S : TS} (h0 : S.hp = []) {l : List Tm} {S1 : TS} (h : Path now S l S1) : l = [] ∧ S1 = S := by
  induction h with
  | nil => exact ⟨rfl, rfl⟩
  | snoc hp hL hw ih =>
    rw [ih.2, h0] at hL
    cases hL.1
theorem path_one {now : Int} {S : TS} {n : NI} (h0 : S.hp = [n]) {l : List Tm} {S1 : TS} (h : Path now S l S1) : (l = [] ∧ S1 = S) ∨ (l = [n.val] ∧ S1 = S.rm n.val.f0 ∧ n.when ≤ now) := by
  induction h with
  | nil => exact .inl ⟨rfl, rfl⟩
  | snoc hp hL hw ih =>
    rcases ih with ⟨h1, h2⟩ | ⟨h1, h2, h3⟩
    · rw [h2, h0] at hL
      rename_i l S1 m
      obtain rfl := List.mem_singleton.1 hL.1
      rw [h1, h2]
      exact .inr ⟨rfl, rfl, hw⟩
    · rw [h2] at hL
      have : (S.rm n.val.f0).hp = [] := by
        show S.hp.filter _ = []
        rw [h0]
        simp
      rw [this] at hL
      cases hL.1
theorem due_early {now : Int} {S : TS} {n : NI} (h0 : S.hp = [n]) (hw : now < n.when) {l : List Tm} {S1 : TS} (h : Path now S l S1) : l = [] ∧ S1 = S := by
  rcases path_one h0 h with h | ⟨_, _, h⟩
  · exact h
  · omega
theorem due_late {now : Int} {S : TS} {n : NI} (h0 : S.hp = [n]) (hw : n.when ≤ now) {l : List Tm} {S1 : TS} (h : Path now S l S1) (hm : ∀ n ∈ S1.hp, now < n.when) : l = [n.val] ∧ S1 = S.rm n.val.f0 := by
  rcases path_one h0 h with ⟨_, h2⟩ | ⟨h1, h2, _⟩
  · have := hm n (by rw [h2, h0]; exact List.mem_cons_self)
    omega
  · exact ⟨h1, h2⟩
theorem row_one {w : World} {base : Nat} {ok : Nat → Prop} {v : Value} {x : Tm} (h : kT.R 40 w base ok v [x]) : ∃ g cap, v = .slice (some ⟨g, 0, none⟩) 1 cap := by
  obtain ⟨g, cap, e, _⟩ := Kd.R_form h (by simp)
  exact ⟨g, cap, e⟩
theorem row_none {w : World} {base : Nat} {ok : Nat → Prop} {v : Value} (h : kT.R 40 w base ok v []) : ∃ A cap, v = .slice A 0 cap := by
  obtain ⟨A, c, e⟩ := Kd.R_slice h
  exact ⟨A, c, e⟩
abbrev sleeper : Tm := ⟨1, 1, ⟨1, 1⟩, 0, 5, false, 0⟩
theorem awake_state : TS.nil.begin ⟨0, 1, ⟨1, 1⟩, 0, 0, false, 0⟩ 3 2 = ⟨1, [⟨5, 0, sleeper⟩], 1, []⟩ := by
  have h1 : nvr 3 2 = false := by decide
  have h2 : ltr 3 2 = 5 := by decide
  unfold TS.begin TS.arm
  rw [h1, h2]
  rfl
set_option maxHeartbeats 4000000 in
set_option maxRecDepth 100000 in
theorem awake_calls (w : World) : Calls Try.prog 17 #[] w fun e w' => e = .returned (.bool true) ∧ Below w.heap.size w w' := by
  have hu37 := Try.underlying37
  have hR : Rng ⟨1, [⟨5, 0, sleeper⟩], 1, []⟩ := fun x hx => by
    have : x = sleeper := by simpa [TS.all] using hx
    rw [this]
    exact ⟨by decide, by decide, by decide, by decide, by decide⟩
  have C1 := Aside0.mk (fun base p ok w H => sleep_ok base p ok TS.nil 1 1 3 2 w H (by decide) (by decide) (by decide) (by decide) (by decide) (by decide) (by decide) (by decide))
  simp only [awake_state] at C1
  have C2 := Aside0.mk (fun base p ok w H => due_calls base p ok ⟨1, [⟨5, 0, sleeper⟩], 1, []⟩ 4 w H hR (by decide) (by decide) (by decide))
  have C3 := Aside0.mk (fun base p ok w H => due_calls base p ok ⟨1, [⟨5, 0, sleeper⟩], 1, []⟩ 5 w H hR (by decide) (by decide) (by decide))
  have TK1 := Aside0.mk trivial
  clear hR
  go_enter Try.func17, Try.ntmps17
  go_wp2_with (first
    | (go_at_call 10; (refine (new_tp _).mono ?_); rintro e w1 ⟨p, ok, rfl, hT, hb⟩; have HT1 := Aside0.mk hT; have HB1 := Aside0.mk hb; clear hT hb)
    | (go_at_call 13; (refine (C1.out _ _ _ _ HT1.out).mono ?_); rintro e w2 ⟨ok2, rfl, h1, h2, h3⟩; have HT2 := Aside0.mk h1; have HB2 := Aside0.mk (HB1.out.trans h3.b); clear h1 h2 h3 HT1 HB1)
    | (go_at_call 16; clear TK1; (refine (C2.out _ _ _ _ HT2.out).mono ?_); rintro e w3 ⟨ok3, okL, v, l, S1, rfl, hp, hm, hT, hr, hd, hk, hF⟩; obtain ⟨rfl, rfl⟩ := due_early rfl (by decide) hp; obtain ⟨A, cap, rfl⟩ := row_none hr; have HT3 := Aside0.mk hT; have HB3 := Aside0.mk (HB2.out.trans hF.b); have TK2 := Aside0.mk trivial; clear hp hm hT hr hd hk hF HT2 HB2)
    | (go_at_call 16; clear TK2; (refine (C3.out _ _ _ _ HT3.out).mono ?_); rintro e w4 ⟨ok4, okL4, v4, l4, S4, rfl, hp, hm, hT, hr, hd, hk, hF⟩; obtain ⟨rfl, rfl⟩ := due_late rfl (by decide) hp hm; obtain ⟨g4, cap4, rfl⟩ := row_one hr; have HB4 := Aside0.mk (HB3.out.trans hF.b); clear hp hm hT hr hd hk hF HT3 HB3))
  go_ret
  exact ⟨rfl, HB4.out⟩
end Go.Proofs.Ytceopcfmhidjlaa.PTimerPlays

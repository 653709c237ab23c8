/- What a ticker does, asked at each tick. Plain. Conditions: each theorem's own. -/
import Derived.Test.YtceopcfmhidjlaaTaw
import Derived.Test.YtceopcfmhidjlaaTfu
set_option linter.unusedVariables false
set_option linter.unusedSimpArgs false
namespace Go.Proofs.Ytceopcfmhidjlaa.PTimerPlays
open Go.RowKit Go.Proofs.Ytceopcfmhidjlaa.Ef Go.Proofs.Ytceopcfmhidjlaa.Mp Go.Proofs.Ytceopcfmhidjlaa.Hp

abbrev tk (ch W p : Int) : Tm := ⟨1, 3, ⟨0, 0⟩, ch, W, false, p⟩
abbrev tkn (ch p : Int) : Tm := ⟨1, 3, ⟨0, 0⟩, ch, 0, true, p⟩
/-- Ahead of the asking at tick i: m is the next tick (behind N) at which it is told. -/
structure Tick (N p ch i m : Int) (S : TS) : Prop where
  p0 : 0 < p
  p1 : p < 256
  hd : m % p = 0
  lo : m - p < i ∨ (i = 0 ∧ m = p)
  hi : i ≤ m
  mp : p ≤ m
  n0 : 0 ≤ N
  last : S.last = 1
  next : S.next ≤ i + 1
  st : (N + m < 18446744073709551616 ∧ ∃ num, S.hp = [⟨N + m, num, tk ch (N + m) p⟩] ∧ S.nv = []) ∨ (18446744073709551616 ≤ N + m ∧ S.hp = [] ∧ S.nv = [tkn ch p])
theorem Tick.rng {N p ch i m : Int} {S : TS} (h : Tick N p ch i m S) (h0 : 0 ≤ i) : Rng S := by
  have hm : 0 ≤ m := Int.le_trans h0 h.hi
  have := h.p0
  have := h.p1
  have := h.n0
  intro x hx
  rcases h.st with ⟨h1, num, h2, h3⟩ | ⟨h1, h2, h3⟩
  · have e : x = tk ch (N + m) p := by unfold TS.all at hx; rw [h2, h3] at hx; simpa using hx
    rw [e]
    exact ⟨by show 0 ≤ N + m; omega, h1, by show 0 ≤ p; omega, by show p < _; omega, fun _ => h.p0⟩
  · have e : x = tkn ch p := by unfold TS.all at hx; rw [h2, h3] at hx; simpa using hx
    rw [e]
    exact ⟨Int.le_refl 0, (by decide : (0 : Int) < 18446744073709551616), by show 0 ≤ p; omega, by show p < _; omega, fun _ => h.p0⟩
theorem Tick.start {N p ch : Int} (hN : 0 ≤ N) (h0 : 0 < p) (h1 : p < 256) : Tick N p ch 0 p (TS.nil.begin ⟨0, 3, ⟨0, 0⟩, ch, 0, false, p⟩ N p) := by
  refine ⟨h0, h1, Int.emod_self, .inr ⟨rfl, rfl⟩, by omega, Int.le_refl _, hN, by rw [begin_last]; rfl, by have := begin_next TS.nil ⟨0, 3, ⟨0, 0⟩, ch, 0, false, p⟩ N p; exact this, ?_⟩
  by_cases h : N + p < 18446744073709551616
  · refine .inl ⟨h, 0, ?_⟩
    have e1 : ltr N p = N + p := if_pos h
    have e2 : nvr N p = false := decide_eq_false (by omega)
    unfold TS.begin TS.arm
    rw [e1, e2]
    exact ⟨rfl, rfl⟩
  · refine .inr ⟨by omega, ?_⟩
    have e1 : ltr N p = 0 := if_neg h
    have e2 : nvr N p = true := decide_eq_true (by omega)
    unfold TS.begin TS.arm
    rw [e1, e2]
    exact ⟨rfl, rfl⟩
theorem tick_not {p i m : Int} (h0 : 0 < p) (hd : m % p = 0) (hlo : m - p < i) (hlt : i < m) : i % p ≠ 0 := by
  intro e
  have h1 : p ∣ m := Int.dvd_of_emod_eq_zero hd
  have h2 : p ∣ i := Int.dvd_of_emod_eq_zero e
  have h3 : p ∣ m - i := Int.dvd_sub h1 h2
  have := Int.le_of_dvd (by omega) h3
  omega
/-- It isn't told at any other tick. -/
theorem Tick.no {N p ch i m : Int} {S : TS} (h : Tick N p ch i m S) (hlt : i < m ∨ S.hp = []) (hov : N + i < 18446744073709551616) : i < m := by
  rcases hlt with q | q
  · exact q
  · rcases h.st with ⟨_, num, h2, _⟩ | ⟨h1, _, _⟩
    · rw [q] at h2; cases h2
    · omega
theorem Tick.quiet {N p ch i m : Int} {S : TS} (h : Tick N p ch i m S) (hlt : i < m) {l : List Tm} {S1 : TS} (hp : Path (N + i) S l S1) : l = [] ∧ S1 = S := by
  rcases h.st with ⟨_, num, h2, _⟩ | ⟨_, h2, _⟩
  · exact due_early h2 (by show N + i < N + m; omega) hp
  · exact path_none h2 hp
theorem Tick.skip {N p ch i m : Int} {S : TS} (h : Tick N p ch i m S) (hlt : i < m) (h0 : 0 ≤ i) : Tick N p ch (i + 1) m S :=
  { h with lo := .inl (by have := h.lo; have := h.p0; omega), hi := by omega, next := by have := h.next; omega }
theorem Tick.told {N p ch i : Int} {S : TS} (h : Tick N p ch i i S) (hov : N + i < 18446744073709551616) {l : List Tm} {S1 : TS} (hp : Path (N + i) S l S1) (hm : ∀ n ∈ S1.hp, N + i < n.when) :
    l = [tk ch (N + i) p] ∧ Tick N p ch (i + 1) (i + p) ([tk ch (N + i) p].foldl (rearm (N + i)) S1) := by
  rcases h.st with ⟨h1, num, h2, h3⟩ | ⟨h1, _, _⟩
  · obtain ⟨e1, e2⟩ := due_late h2 (Int.le_refl _) hp hm
    refine ⟨e1, ?_⟩
    have hp0 := h.p0
    have hr : S1 = ⟨1, [], S.next, []⟩ := by
      rw [e2]
      unfold TS.rm
      rw [h2, h3, h.last]
      simp
    have hq : (N + i - (N + i)) / p = 0 := by rw [Int.sub_self, Int.zero_ediv]
    have hd' : (i + p) % p = 0 := by rw [Int.add_emod_right]; exact h.hd
    refine ⟨h.p0, h.p1, hd', .inl (by omega), by omega, by have := h.mp; omega, h.n0, ?_, ?_, ?_⟩
    · rw [hr]; simp only [List.foldl_cons, List.foldl_nil]
      unfold rearm
      rw [if_pos rfl, arm_last]
    · rw [hr]; simp only [List.foldl_cons, List.foldl_nil]
      unfold rearm
      rw [if_pos rfl]
      have := (arm_next (⟨1, [], S.next, []⟩ : TS) (again (N + i) (tk ch (N + i) p))).2
      have h9 := h.next
      simp only at this
      omega
    · rw [hr]
      show _ ∨ _
      simp only [List.foldl_cons, List.foldl_nil]
      unfold rearm
      rw [if_pos rfl]
      by_cases hc : (18446744073709551615 - (N + i)) / p ≤ (N + i - (N + i)) / p
      · have e : again (N + i) (tk ch (N + i) p) = tkn ch p := if_pos hc
        rw [e]
        rw [hq] at hc
        have hlt : 18446744073709551615 - (N + i) < p := by
          by_cases hge : p ≤ 18446744073709551615 - (N + i)
          · have : 1 ≤ (18446744073709551615 - (N + i)) / p := (Int.le_ediv_iff_mul_le hp0).2 (by omega)
            omega
          · omega
        exact .inr ⟨by omega, rfl, rfl⟩
      · have e : again (N + i) (tk ch (N + i) p) = tk ch (N + (i + p)) p := by
          refine (if_neg hc).trans ?_
          show (⟨1, 3, ⟨0, 0⟩, ch, N + i + ((N + i - (N + i)) / p + 1) * p, false, p⟩ : Tm) = _
          rw [hq]
          have : N + i + (0 + 1) * p = N + (i + p) := by omega
          rw [this]
        rw [e]
        rw [hq] at hc
        have hge : p ≤ 18446744073709551615 - (N + i) := by
          have h5 : 1 ≤ (18446744073709551615 - (N + i)) / p := by omega
          have := (Int.le_ediv_iff_mul_le hp0).1 h5
          omega
        exact .inl ⟨by omega, S.next, rfl, rfl⟩
  · omega
theorem Tick.one {N p ch i m : Int} {S : TS} (h : Tick N p ch i m S) : ∃ x, S.all = [x] ∧ x.f0 = 1 ∧ x.f1 ≠ 1 := by
  unfold TS.all
  rcases h.st with ⟨h1, num, h2, h3⟩ | ⟨h1, h2, h3⟩
  · rw [h2, h3]; exact ⟨_, rfl, rfl, (by decide : (3 : Int) ≠ 1)⟩
  · rw [h2, h3]; exact ⟨_, rfl, rfl, (by decide : (3 : Int) ≠ 1)⟩
end Go.Proofs.Ytceopcfmhidjlaa.PTimerPlays

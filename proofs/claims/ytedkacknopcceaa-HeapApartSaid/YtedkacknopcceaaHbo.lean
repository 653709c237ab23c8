/- What the program's heap and the document's tell alike: Pop, Drop, Top, Push. Conditions: each theorem's own. -/
import Derived.Test.YtedkacknopcceaaHto
import Derived.Test.YtedkacknopcceaaQHeapx3
import Derived.Deep.RegionLaw
set_option linter.unusedVariables false
set_option linter.unusedSimpArgs false
namespace Go.Proofs.Ytedkacknopcceaa.QHeap
open Go.RowKit Go.Proofs.Ytedkacknopcceaa.Ef Go.Proofs.Ytedkacknopcceaa.Mp Go.Proofs.Ytedkacknopcceaa.Hp Go.Proofs.YtedkacknopcceaaW.PrintWords Go.Proofs.YtedkacknopcceaaW.PrintLast Go.Proofs.YtedkacknopcceaaW.PrintMore

/-- The program's heap at p, with the document's state whose row is u: the same items. -/
structure Two (w : World) (base p : Nat) (ok P : Nat → Prop) (u : Value) (l : List S34) (next : Int) : Prop where
  heap : HP w base p ok (l.map toN) next
  row : Kd.R k34 34 w base P u l
  apart : ∀ k, ok k → ¬ P k
  bound : ∀ k, P k → base ≤ k ∧ k < w.heap.size
  num : ∀ x ∈ l, x.f1 < next
  pos : 0 ≤ next
theorem Two.kept {w w' : World} {base p : Nat} {ok P S : Nat → Prop} {u : Value} {l : List S34} {next : Int} (h : Two w base p ok P u l next) (hk : Kept w w' S) (h1 : ∀ k, ok k → ¬ S k) (h2 : ∀ k, P k → ¬ S k) : Two w' base p ok P u l next :=
  ⟨h.heap.kept hk h1, Kd.R_kept h.row hk h2, h.apart, fun k q => ⟨(h.bound k q).1, Nat.lt_of_lt_of_le (h.bound k q).2 hk.1⟩, h.num, h.pos⟩
theorem Two.below {w w' : World} {base p : Nat} {ok P : Nat → Prop} {u : Value} {l : List S34} {next : Int} (h : Two w base p ok P u l next) (hk : Below w.heap.size w w') : Two w' base p ok P u l next :=
  h.kept (Kept.of_below hk (fun _ => False)) (fun _ _ => id) (fun _ _ => id)
theorem Two.grown {w w' : World} {base p g : Nat} {ok P : Nat → Prop} {u : Value} {l : List S34} {next : Int} (h : Two w base p ok P u l next) (hg : w.grownBy w' (some g)) (h1 : ¬ ok g) (h2 : ¬ P g) : Two w' base p ok P u l next :=
  h.kept (Kept.of_grown hg (Kept.refl _ (fun k => k = g)) (fun k hk => by cases hk; exact .inl rfl)) (fun k q e => h1 (e ▸ q)) (fun k q e => h2 (e ▸ q))
theorem Two.le {w : World} {base p : Nat} {ok P : Nat → Prop} {u : Value} {l : List S34} {next : Int} (h : Two w base p ok P u l next) : base ≤ w.heap.size := by
  obtain ⟨mb, v, l, m, h1, h2, h3⟩ := h.heap
  exact h1.le

theorem pop_both (p : Nat) (l : List S34) (next : Int) (hl : l.length ≤ most) : ∃ (r : List S34) (f0 f1 f2 f : Int), rotaref05_Pop.f (l.length + 1) l next = some (r, next, f0, f1, f2, f) ∧ (∀ x ∈ r, x ∈ l) ∧ r.length ≤ l.length ∧
    ∀ (W : World) (base : Nat) (ok : Nat → Prop), HP W base p ok (l.map toN) next → Calls Try.prog 11 #[.pointer (some ⟨p, 0, none⟩)] W fun e w' => e = .returned (.tuple #[.int .u64 f0, .int .i64 f1, .int .i64 f2, .int .i64 f]) ∧ HP w' base p ok (r.map toN) next ∧ Fr base ok W w' := by
  by_cases hp : 0 < l.length
  · obtain ⟨i, hi, hpop⟩ := pop_eq l next hl hp (l.length + 1) (by omega)
    refine ⟨_, _, _, _, _, hpop, fun x hx => List.mem_of_mem_eraseIdx hx, List.length_eraseIdx_le _ _, fun W base ok H => ?_⟩
    exact HP.pop base p ok (l.map toN) ((l.eraseIdx i).map toN) next (toN (l.getD i z34)) W H (least_toN hi) (erase_toN l i hi.1) (by rw [List.length_map]; unfold most at hl; omega)
  · have hnil : l = [] := List.eq_nil_of_length_eq_zero (by omega)
    subst hnil
    refine ⟨[], 0, 0, 0, 31, pop_none_eq next 1 (by decide), by simp, Nat.le_refl _, fun W base ok H => ?_⟩
    refine (HP.pop_none base p ok next W H).mono ?_
    rintro e w' ⟨rfl, hb⟩
    obtain ⟨mb, v, l, m, h1, h2, h3⟩ := id H
    exact ⟨rfl, H.below hb, (Fr.refl h1.le (fun k q => (H.bound k q).1)).below hb⟩
theorem top_both (p : Nat) (l : List S34) (next : Int) (hl : l.length ≤ most) : ∃ (f0 f1 f2 f : Int), rotaref05_Top.f (l.length + 1) l next = some (f0, f1, f2, f) ∧
    ∀ (W : World) (base : Nat) (ok : Nat → Prop), HP W base p ok (l.map toN) next → Calls Try.prog 26 #[.pointer (some ⟨p, 0, none⟩)] W fun e w' => e = .returned (.tuple #[.int .u64 f0, .int .i64 f1, .int .i64 f2, .int .i64 f]) ∧ Below W.heap.size W w' := by
  by_cases hp : 0 < l.length
  · obtain ⟨i, hi, _, htop⟩ := top_eq l next hl hp (l.length + 1) (by omega)
    refine ⟨_, _, _, _, htop, fun W base ok H => ?_⟩
    exact HP.top base p ok (l.map toN) next (toN (l.getD i z34)) W H (least_toN hi)
  · have hnil : l = [] := List.eq_nil_of_length_eq_zero (by omega)
    subst hnil
    exact ⟨0, 0, 0, 31, top_none_eq next 1 (by decide), fun W base ok H => HP.top_none base p ok next W H⟩
theorem drop_both (p : Nat) (l : List S34) (next n : Int) (hl : l.length ≤ most) : ∃ (r : List S34) (f0 f1 f2 f : Int), rotaref05_Drop.f (2 * l.length + 2) l next n = some (r, next, f0, f1, f2, f) ∧ (∀ x ∈ r, x ∈ l) ∧ r.length ≤ l.length ∧
    ∀ (W : World) (base : Nat) (ok : Nat → Prop), HP W base p ok (l.map toN) next → Calls Try.prog 10 #[.pointer (some ⟨p, 0, none⟩), .int .i64 n] W fun e w' => e = .returned (.tuple #[.int .u64 f0, .int .i64 f2, .int .i64 f]) ∧ HP w' base p ok (r.map toN) next ∧ Fr base ok W w' := by
  rcases drop_eq l next n hl (2 * l.length + 2) (by omega) with ⟨h1, h2⟩ | ⟨i, hi, rfl, h1⟩
  · refine ⟨l, 0, 0, 0, 31, h1, fun x hx => hx, Nat.le_refl _, fun W base ok H => ?_⟩
    refine (HP.drop_none base p ok (l.map toN) next n W H ?_).mono ?_
    · intro y hy
      obtain ⟨x, hx, rfl⟩ := List.mem_map.1 hy
      obtain ⟨j, hj, e⟩ := List.getElem_of_mem hx
      have := h2 j hj
      rw [show l.getD j z34 = x by simp [hj, e]] at this
      exact this
    · rintro e w' ⟨rfl, rfl⟩
      obtain ⟨mb, v, l, m, h1, h2, h3⟩ := id H
      exact ⟨rfl, H, Fr.refl h1.le (fun k q => (H.bound k q).1)⟩
  · refine ⟨_, _, _, _, _, h1, fun x hx => List.mem_of_mem_eraseIdx hx, List.length_eraseIdx_le _ _, fun W base ok H => ?_⟩
    exact HP.drop base p ok (l.map toN) ((l.eraseIdx i).map toN) next (toN (l.getD i z34)) W H (erase_toN l i hi) (by rw [List.length_map]; unfold most at hl; omega)
end Go.Proofs.Ytedkacknopcceaa.QHeap

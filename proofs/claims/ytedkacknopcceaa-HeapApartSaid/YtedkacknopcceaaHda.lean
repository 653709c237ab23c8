/- rotalaw05.does: any act, on both alike. Conditions: each theorem's own. -/
import Derived.Test.YtedkacknopcceaaHdd
import Derived.Test.YtedkacknopcceaaHdu
set_option linter.unusedVariables false
namespace Go.Proofs.Ytedkacknopcceaa.QHeap
open Go.RowKit Go.Proofs.Ytedkacknopcceaa.Ef Go.Proofs.Ytedkacknopcceaa.Mp Go.Proofs.Ytedkacknopcceaa.Hp Go.Proofs.YtedkacknopcceaaW.PrintWords Go.Proofs.YtedkacknopcceaaW.PrintLast Go.Proofs.YtedkacknopcceaaW.PrintMore

theorem does_calls (p : Nat) (ok P : Nat → Prop) (l : List S34) (A : Option Addr) (c : Nat) (next a0 a1 a2 : Int) (w0 w : World) (hB : Below w0.heap.size w0 w) (T : Two w w0.heap.size p ok P (.slice A l.length c) l next) (hl : l.length < most) (hn : next ≤ (most : Nat)) :
    Calls Try.prog 13 #[.pointer (some ⟨p, 0, none⟩), .agg #[.slice A l.length c, .int .i64 next], .agg #[.int .i64 a0, .int .u64 a1, .int .i64 a2]] w fun e w' => ∃ (ok' P' : Nat → Prop) (l' : List S34) (A' : Option Addr) (c' : Nat) (next' : Int), e = .returned (.tuple #[.agg #[.slice A' l'.length c', .int .i64 next'], .bool true]) ∧ Two w' w0.heap.size p ok' P' (.slice A' l'.length c') l' next' ∧ l'.length ≤ l.length + 1 ∧ next' ≤ next + 1 ∧ (∀ k, ok' k → ok k ∨ w.heap.size ≤ k) ∧ (∀ k, P' k → P k ∨ w.heap.size ≤ k) ∧ Fr w0.heap.size (fun k => ok k ∨ P k) w w' := by
  have hS : ∀ k, (ok k ∨ P k) → w0.heap.size ≤ k := fun k q => q.elim (fun q => (T.heap.bound k q).1) (fun q => (T.bound k q).1)
  by_cases h0 : a0 = 0
  · subst h0
    refine (does_push p ok P l A c next a1 a2 w0 w hB T hl hn).mono ?_
    rintro e w' ⟨ok', P', A', c', h1, h2, h3, h4, h5⟩
    have hlen : (l ++ [(⟨a1, next, a2⟩ : S34)]).length = l.length + 1 := by simp
    exact ⟨ok', P', _, A', c', next + 1, by rw [hlen]; exact h1, by rw [hlen]; exact h2, by rw [hlen]; exact Nat.le_refl _, Int.le_refl _, h3, h4, h5⟩
  by_cases h1 : a0 = 1
  · subst h1
    refine (does_pop p ok P l A c next a1 a2 w0 w hB T (Nat.le_of_lt hl)).mono ?_
    rintro e w' ⟨P', l', A', c', h1, h2, h3, h4, h5, h6⟩
    exact ⟨ok, P', l', A', c', next, h1, h2, by omega, by omega, fun _ q => .inl q, h5, h6⟩
  by_cases h2 : a0 = 2
  · subst h2
    refine (does_drop p ok P l A c next a1 a2 w0 w hB T (Nat.le_of_lt hl)).mono ?_
    rintro e w' ⟨P', l', A', c', h1, h2, h3, h4, h5, h6⟩
    exact ⟨ok, P', l', A', c', next, h1, h2, by omega, by omega, fun _ q => .inl q, h5, h6⟩
  by_cases h3 : a0 = 3
  · subst h3
    refine (does_top p ok P l A c next a1 a2 w0 w hB T (Nat.le_of_lt hl)).mono ?_
    rintro e w' ⟨h1, h2, h3⟩
    exact ⟨ok, P, l, A, c, next, h1, h2, by omega, by omega, fun _ q => .inl q, fun _ q => .inl q, (Fr.refl T.le hS).below h3⟩
  refine (does_told p ok P l A c next a0 a1 a2 w0 w hB T (Nat.le_of_lt hl) h0 h1 h2 h3).mono ?_
  rintro e w' ⟨h1, h2, h3⟩
  exact ⟨ok, P, l, A, c, next, h1, h2, by omega, by omega, fun _ q => .inl q, fun _ q => .inl q, (Fr.refl T.le hS).below h3⟩
structure S46 where
  f0 : Int
  f1 : Int
  f2 : Int
def z46 : S46 := ⟨(0 : Int), (0 : Int), (0 : Int)⟩
def k46 : Kd S46 := Kd.iso (Kd.pair (Kd.int .i64) (Kd.pair (Kd.int .u64) (Kd.int .i64))) (fun x : S46 => (x.f0, x.f1, x.f2))
theorem act_open {w : World} {x : S46} {cs : List Value} (h : k46.K w x cs) : cs = [.int .i64 x.f0, .int .u64 x.f1, .int .i64 x.f2] := by
  obtain ⟨_, _, rfl, rfl, ⟨_, _, rfl, rfl, rfl⟩⟩ := h
  exact rfl
theorem at_act {w : World} {A : Option Addr} {n : Nat} {xs : List S46} (h : Kd.C k46 w A n xs) (i : Int) (h0 : 0 ≤ i) (h1 : i < n) : ∃ (ad : Addr) (x : S46), A = some ad ∧ w.cell? (ad.add (i.toNat * 3)) = some (.int .i64 x.f0) ∧ w.cell? ⟨(ad.add (i.toNat * 3)).block, (ad.add (i.toNat * 3)).off + 1, none⟩ = some (.int .u64 x.f1) ∧ w.cell? ⟨(ad.add (i.toNat * 3)).block, (ad.add (i.toNat * 3)).off + 2, none⟩ = some (.int .i64 x.f2) := by
  obtain ⟨ad, c, e, _, hK, hc0⟩ := Kd.C_get h z46 i h0 h1
  have hc : ∀ j u, c[j]? = some u → w.cell? (ad.add (i.toNat * 3 + j)) = some u := hc0
  obtain rfl := act_open hK
  exact ⟨ad, xs.getD i.toNat z46, e, hc 0 _ rfl, by rw [← add_field _ _ 1 (by omega)]; exact hc 1 _ rfl, by rw [← add_field _ _ 2 (by omega)]; exact hc 2 _ rfl⟩
theorem Two.new {w : World} {base p : Nat} {ok : Nat → Prop} (h : HP w base p ok [] 0) : Two w base p ok (fun _ => False) (.slice none ([] : List S34).length 0) [] 0 :=
  ⟨h, Kd.R_nil _ _ _ _ _, fun _ _ q => q, fun _ q => q.elim, fun _ hx => by simp at hx, Int.le_refl _⟩

end Go.Proofs.Ytedkacknopcceaa.QHeap

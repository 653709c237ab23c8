/- Nobody is told twice. Plain. Conditions: each theorem's own. -/
import Derived.Test.YtceopcfmhidjlaaTny
set_option linter.unusedVariables false
set_option linter.unusedSimpArgs false
namespace Go.Proofs.Ytceopcfmhidjlaa.PTimerPlays
open Go.RowKit Go.Proofs.Ytceopcfmhidjlaa.Ef Go.Proofs.Ytceopcfmhidjlaa.Mp Go.Proofs.Ytceopcfmhidjlaa.Hp

/-- The names of those that aren't tickers. -/
def ntI (l : List Tm) : List Int := (l.filter (fun x => x.f1 != 3)).map (·.f0)
structure OInv (S : TS) (T : List Int) : Prop where
  nd : T.Nodup
  rg : ∀ id ∈ T, 1 ≤ id ∧ id ≤ S.last
  no : ∀ id ∈ T, ∀ y ∈ S.all, y.f1 ≠ 3 → y.f0 ≠ id
theorem OInv.nil (S : TS) : OInv S [] := ⟨List.nodup_nil, fun _ h => (by cases h), fun _ h => (by cases h)⟩
theorem OInv.due {S S' : TS} {T : List Int} {now : Int} {l : List Tm} (h : OInv S T) (F : Fine S) (hp : ∀ x ∈ S.all, 1 ≤ x.f0 ∧ x.f0 ≤ S.last) (hd : DueTo now S l S') : OInv S' (T ++ ntI l) := by
  obtain ⟨S1, hpa, hm, rfl⟩ := hd
  have P := hpa.says F
  have Q := fold_says now S1 l
  have hn : ((l ++ S1.all).map (·.f0)).Nodup := ((P.perm.map (·.f0)).nodup_iff).1 F.ni
  rw [List.map_append, List.nodup_append] at hn
  have hl : ∀ x ∈ l, x ∈ S.all := fun x hx => P.perm.mem_iff.2 (List.mem_append.2 (.inl hx))
  have hlast : (l.foldl (rearm now) S1).last = S.last := by rw [Q.last, P.last]
  have hnt : ∀ id ∈ ntI l, ∃ x ∈ l, x.f1 ≠ 3 ∧ x.f0 = id := fun id hid => by
    obtain ⟨x, hx, e⟩ := List.mem_map.1 hid
    have := List.mem_filter.1 hx
    exact ⟨x, this.1, by simpa using this.2, e⟩
  refine ⟨?_, fun id hid => ?_, fun id hid y hy hk e => ?_⟩
  · rw [List.nodup_append]
    refine ⟨h.nd, hn.1.sublist ((List.filter_sublist (l := l)).map _), fun a ha b hb e => ?_⟩
    obtain ⟨x, hx, hk, e2⟩ := hnt b hb
    exact h.no a ha x (hl x hx) hk (by rw [e2, e])
  · rw [hlast]
    rcases List.mem_append.1 hid with q | q
    · exact h.rg id q
    · obtain ⟨x, hx, hk, e2⟩ := hnt id q
      rw [← e2]
      exact hp x (hl x hx)
  · rcases Q.mem y hy with q | ⟨z, hz, h3, rfl⟩
    · rcases List.mem_append.1 hid with r | r
      · exact h.no id r y (P.perm.mem_iff.2 (List.mem_append.2 (.inr q))) hk e
      · obtain ⟨x, hx, hk2, e2⟩ := hnt id r
        exact hn.2.2 x.f0 (List.mem_map.2 ⟨x, hx, rfl⟩) y.f0 (List.mem_map.2 ⟨y, q, rfl⟩) (by rw [e2, e])
    · exact hk (by rw [(again_id now z).2, h3])
theorem nodup_le : ∀ (n : Nat) (T : List Int), T.Nodup → (∀ x ∈ T, 1 ≤ x ∧ x ≤ (n : Int)) → T.length ≤ n
  | 0, T, _, h => by
    cases T with
    | nil => exact Nat.le_refl _
    | cons a r => have := h a List.mem_cons_self; omega
  | n + 1, T, hn, h => by
    by_cases hm : ((n + 1 : Nat) : Int) ∈ T
    · have hp := perm_ne (fun x : Int => x) (by simpa using hn) hm
      have hn2 := hn.sublist (List.filter_sublist (l := T) (p := fun y => y != ((n + 1 : Nat) : Int)))
      have := nodup_le n _ hn2 (fun x hx => by
        have h1 := List.mem_filter.1 hx
        have h2 := h x h1.1
        have h3 : x ≠ ((n + 1 : Nat) : Int) := by simpa using h1.2
        omega)
      have h5 := hp.length_eq
      rw [List.length_cons] at h5
      omega
    · have := nodup_le n T hn (fun x hx => by
        have h2 := h x hx
        have : x ≠ ((n + 1 : Nat) : Int) := fun e => hm (e ▸ hx)
        omega)
      omega
theorem OInv.len {S : TS} {T : List Int} (h : OInv S T) {n : Nat} (hn : S.last ≤ n) : T.length ≤ n := nodup_le n T h.nd (fun x hx => ⟨(h.rg x hx).1, Int.le_trans (h.rg x hx).2 hn⟩)
/-- Going over what is told. -/
theorem ntI_take {l : List Tm} {k : Nat} (hk : k < l.length) : ntI (l.take (k + 1)) = if (tn l k).f1 = 3 then ntI (l.take k) else ntI (l.take k) ++ [(tn l k).f0] := by
  have et : tn l k = l[k] := by unfold tn; rw [List.getElem?_eq_getElem hk]; rfl
  unfold ntI
  rw [List.take_succ_eq_append_getElem hk, List.filter_append, List.map_append, et]
  by_cases h : l[k].f1 = 3
  · rw [if_pos h]; simp [h]
  · rw [if_neg h]; simp [h]
theorem ntI_split {l : List Tm} {k : Nat} (hk : k < l.length) (h : (tn l k).f1 ≠ 3) : ∃ r, ntI l = ntI (l.take k) ++ (tn l k).f0 :: r := by
  have e : l = l.take k ++ l[k] :: l.drop (k + 1) := by rw [List.getElem_cons_drop, List.take_append_drop]
  have et : tn l k = l[k] := by unfold tn; rw [List.getElem?_eq_getElem hk]; rfl
  refine ⟨ntI (l.drop (k + 1)), ?_⟩
  rw [et] at h ⊢
  have : ntI l = ntI (l.take k ++ l[k] :: l.drop (k + 1)) := congrArg ntI e
  rw [this]
  unfold ntI
  rw [List.filter_append, List.map_append, List.filter_cons, if_pos (by simpa using h)]
  rfl
theorem told_new {T : List Int} {l : List Tm} {k : Nat} (hn : (T ++ ntI l).Nodup) (hk : k < l.length) (h : (tn l k).f1 ≠ 3) : (tn l k).f0 ∉ T ++ ntI (l.take k) := by
  obtain ⟨r, e⟩ := ntI_split hk h
  rw [e, ← List.append_assoc] at hn
  intro q
  exact (List.nodup_append.1 hn).2.2 _ q _ List.mem_cons_self rfl
end Go.Proofs.Ytceopcfmhidjlaa.PTimerPlays

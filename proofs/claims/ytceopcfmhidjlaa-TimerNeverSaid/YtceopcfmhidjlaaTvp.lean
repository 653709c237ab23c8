/- What Due leaves and tells, for the law TimerNever. Plain. Conditions: each theorem's own. -/
import Derived.Test.YtceopcfmhidjlaaTsh
import Derived.Test.YtceopcfmhidjlaaTpp
set_option linter.unusedVariables false
set_option linter.unusedSimpArgs false
namespace Go.Proofs.Ytceopcfmhidjlaa.PTimerPlays
open Go.RowKit Go.Proofs.Ytceopcfmhidjlaa.Ef Go.Proofs.Ytceopcfmhidjlaa.Mp Go.Proofs.Ytceopcfmhidjlaa.Hp

theorem again_later2 {now : Int} {x : Tm} (h1 : x.f4 ≤ now) (h3 : 0 < x.f6) : (again now x).f5 = true ∨ now < (again now x).f4 := by
  unfold again
  split
  · exact .inl rfl
  · right
    show now < x.f4 + ((now - x.f4) / x.f6 + 1) * x.f6
    have e := Int.mul_ediv_add_emod (now - x.f4) x.f6
    have hl := Int.emod_lt_of_pos (now - x.f4) h3
    rw [Int.add_mul, Int.one_mul, Int.mul_comm ((now - x.f4) / x.f6) x.f6]
    omega
theorem due_hp {now : Int} {S S' : TS} {l : List Tm} (F : Fine S) (hn : ∀ x ∈ S.nv, x.f5 = true) (R : Rng S) (hd : DueTo now S l S') (F' : Fine S') : ∀ n ∈ S'.hp, now < n.when := by
  obtain ⟨S1, hp, hm, rfl⟩ := hd
  have P := hp.says F
  have Q := fold_says now S1 l
  intro n hnn
  obtain ⟨e5, e4⟩ := F'.hd n hnn
  rcases Q.mem n.val (List.mem_append.2 (.inl (List.mem_map.2 ⟨n, hnn, rfl⟩))) with q | ⟨z, hz, h3, e⟩
  · rcases List.mem_append.1 q with q | q
    · obtain ⟨m, hmm, e⟩ := List.mem_map.1 q
      have := hm m hmm
      rw [← e4, ← e, (P.fine.hd m hmm).2]
      exact this
    · rw [P.nv] at q
      rw [hn _ q] at e5
      cases e5
  · have h1 := P.due z hz
    have hz2 := R z (P.perm.mem_iff.2 (List.mem_append.2 (.inl hz)))
    rcases again_later2 h1.1 (hz2.pp h3) with q | q
    · rw [e, q] at e5; cases e5
    · rw [← e4, e]; exact q
theorem due_again {now : Int} {S S1 : TS} {l : List Tm} (hm : ∀ n ∈ S.hp, now < n.when) (hp : Path now S l S1) : l = [] ∧ S1 = S := by
  induction hp with
  | nil => exact ⟨rfl, rfl⟩
  | snoc hp hL hw ih =>
    obtain ⟨rfl, rfl⟩ := ih
    have := hm _ hL.1
    omega
theorem due_sorted {now : Int} {S S' : TS} {l : List Tm} (F : Fine S) (hO : Once S.hp) (hd : DueTo now S l S') : ∀ i, i + 1 < l.length → (tn l i).f4 ≤ (tn l (i + 1)).f4 := by
  obtain ⟨L, S1, rfl, h1, _, h3, _, _⟩ := hd.nodes F hO
  intro i hi
  have hi2 : i + 1 < L.length := by simpa using hi
  have hi1 : i < L.length := by omega
  have e1 : tn (L.map (·.val)) i = L[i].val := by unfold tn; rw [List.getElem?_map, List.getElem?_eq_getElem hi1]; rfl
  have e2 : tn (L.map (·.val)) (i + 1) = L[i + 1].val := by unfold tn; rw [List.getElem?_map, List.getElem?_eq_getElem hi2]; rfl
  have hlt := List.pairwise_iff_getElem.1 h3 i (i + 1) hi1 hi2 (by omega)
  have m1 := F.hd L[i] (List.mem_filter.1 (h1.mem_iff.2 (List.getElem_mem hi1))).1
  have m2 := F.hd L[i + 1] (List.mem_filter.1 (h1.mem_iff.2 (List.getElem_mem hi2))).1
  rw [e1, e2, m1.2, m2.2]
  unfold lt at hlt
  omega
theorem due_told {now : Int} {S S' : TS} {l : List Tm} (F : Fine S) (hd : DueTo now S l S') : ∀ i, i < l.length → (tn l i).f5 = false ∧ (tn l i).f4 ≤ now := by
  obtain ⟨S1, hp, hm, rfl⟩ := hd
  have P := hp.says F
  intro i hi
  have e1 : tn l i = l[i] := by unfold tn; rw [List.getElem?_eq_getElem hi]; rfl
  have := P.due l[i] (List.getElem_mem hi)
  rw [e1]
  exact ⟨this.2, this.1⟩
theorem shown_left {now : Int} {S : TS} {d : List NI} (F : Fine S) (hn : ∀ x ∈ S.nv, x.f5 = true) (hm : ∀ n ∈ S.hp, now < n.when) (hd : d.Perm S.hp) : ∀ i, i < (d.map (·.val) ++ S.nv).length → (tn (d.map (·.val) ++ S.nv) i).f5 = true ∨ (tn (d.map (·.val) ++ S.nv) i).f5 = false ∧ now < (tn (d.map (·.val) ++ S.nv) i).f4 := by
  intro i hi
  have e1 : tn (d.map (·.val) ++ S.nv) i = (d.map (·.val) ++ S.nv)[i] := by unfold tn; rw [List.getElem?_eq_getElem hi]; rfl
  rw [e1]
  rcases List.mem_append.1 (List.getElem_mem hi) with q | q
  · obtain ⟨n, hn2, e⟩ := List.mem_map.1 q
    have h5 := hd.mem_iff.1 hn2
    rw [← e, (F.hd n h5).1, (F.hd n h5).2]
    exact .inr ⟨rfl, hm n h5⟩
  · exact .inl (hn _ q)
theorem shown_len {S : TS} {d : List NI} (F : Fine S) (hd : d.Perm S.hp) : (d.map (·.val) ++ S.nv).length ≤ 1024 := by
  have h1 := hd.length_eq
  have h2 := F.len
  unfold TS.all at h2
  rw [List.length_append, List.length_map] at h2 ⊢
  omega
theorem TP.nd {w : World} {base p : Nat} {ok : Nat → Prop} {S : TS} (H : TP w base p ok S) : ∀ x ∈ S.nv, x.f5 = true := by
  obtain ⟨P, v, ids, own, gs, rfl, rfl, h3, h4⟩ := H
  exact h4.nd
end Go.Proofs.Ytceopcfmhidjlaa.PTimerPlays

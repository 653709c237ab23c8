/- What timers hold when one has gone. Plain. Conditions: each theorem's own. -/
import Derived.Test.YtceopcfmhidjlaaTgd
set_option linter.unusedVariables false
set_option linter.unusedSimpArgs false
namespace Go.Proofs.Ytceopcfmhidjlaa.PTimerPlays
open Go.RowKit Go.Proofs.Ytceopcfmhidjlaa.Ef Go.Proofs.Ytceopcfmhidjlaa.Mp Go.Proofs.Ytceopcfmhidjlaa.Hp

theorem perm_ne {α β : Type} [DecidableEq β] (f : α → β) : ∀ {l : List α}, (l.map f).Nodup → ∀ {x : α}, x ∈ l → l.Perm (x :: l.filter (fun y => f y != f x))
  | [], _, _, h => by cases h
  | a :: r, hn, x, h => by
    rw [List.map_cons, List.nodup_cons] at hn
    rcases List.mem_cons.1 h with e | e
    · subst e
      have : (x :: r).filter (fun y => f y != f x) = r := by
        rw [List.filter_cons]
        simp only [bne_self_eq_false, Bool.false_eq_true, if_false]
        refine List.filter_eq_self.2 (fun y hy => ?_)
        simp only [bne_iff_ne, ne_eq]
        exact fun q => hn.1 (List.mem_map.2 ⟨y, hy, q⟩)
      rw [this]
    · have hne : f a ≠ f x := fun q => hn.1 (List.mem_map.2 ⟨x, e, q.symm⟩)
      rw [List.filter_cons, if_pos (by simpa using hne)]
      exact ((perm_ne f hn.2 e).cons a).trans (.swap _ _ _)
theorem filter_none {α β : Type} [DecidableEq β] (f : α → β) {l : List α} {k : β} (h : ∀ y ∈ l, f y ≠ k) : l.filter (fun y => f y != k) = l :=
  List.filter_eq_self.2 (fun y hy => by simpa using h y hy)
theorem nodup_inj {α β : Type} (f : α → β) {l : List α} (hn : (l.map f).Nodup) {x y : α} (hx : x ∈ l) (hy : y ∈ l) (e : f x = f y) : x = y := by
  induction l with
  | nil => cases hx
  | cons a r ih =>
    rw [List.map_cons, List.nodup_cons] at hn
    rcases List.mem_cons.1 hx with h1 | h1 <;> rcases List.mem_cons.1 hy with h2 | h2
    · rw [h1, h2]
    · subst h1; exact absurd (List.mem_map.2 ⟨y, h2, e.symm⟩) hn.1
    · subst h2; exact absurd (List.mem_map.2 ⟨x, h1, e⟩) hn.1
    · exact ih hn.2 h1 h2
def TS.rm (S : TS) (id : Int) : TS := { S with hp := S.hp.filter (fun n => n.val.f0 != id), nv := S.nv.filter (fun x => x.f0 != id) }
theorem rm_all (S : TS) (id : Int) : (S.rm id).all = S.all.filter (fun x => x.f0 != id) := by
  unfold TS.rm TS.all
  rw [List.filter_append, List.filter_map]
  rfl
theorem rm_ids (S : TS) (id : Int) : (S.rm id).ids = S.ids.filter (fun p => p.1 != id) := by
  unfold TS.rm TS.ids
  rw [List.filter_append, List.filter_map, List.filter_map]
  rfl
theorem rm_own (S : TS) (id : Int) : (S.rm id).own = S.own.filter (fun p => p.1 != id) := by
  unfold TS.own
  rw [rm_all, List.filter_map]
  rfl
theorem rm_sl (S : TS) (id : Int) : (S.rm id).sl = S.sl.filter (fun x => x.f0 != id) := by
  unfold TS.sl
  rw [rm_all, List.filter_filter, List.filter_filter]
  congr 1
  funext x
  exact Bool.and_comm _ _
theorem hp_key {S : TS} {ids own : List (Int × Value)} {gs : List ((Int × Int) × Value)} (G : Good S ids own gs) : (S.hp.map (fun n => n.val.f0)).Nodup := by
  have := G.ni
  unfold TS.all at this
  rw [List.map_append, List.map_map] at this
  exact (List.nodup_append.1 this).1
theorem nv_key {S : TS} {ids own : List (Int × Value)} {gs : List ((Int × Int) × Value)} (G : Good S ids own gs) : (S.nv.map (fun n => n.f0)).Nodup := by
  have := G.ni
  unfold TS.all at this
  rw [List.map_append, List.map_map] at this
  exact (List.nodup_append.1 this).2.1
def gsD (x : Tm) (gs : List ((Int × Int) × Value)) : List ((Int × Int) × Value) := if x.f1 = 1 then del (gk x) gs else gs
theorem Good.rm {S : TS} {ids own : List (Int × Value)} {gs : List ((Int × Int) × Value)} (G : Good S ids own gs) {x : Tm} (hx : x ∈ S.all) : Good (S.rm x.f0) (del x.f0 ids) (del x.f0 own) (gsD x gs) := by
  have hki : (S.ids.map (·.1)).Nodup := ((G.pi.map (·.1)).nodup_iff).1 (ids_key G)
  have hko : (S.own.map (·.1)).Nodup := ((G.po.map (·.1)).nodup_iff).1 (own_key G)
  have hkg : (S.gs.map (·.1)).Nodup := ((G.pg.map (·.1)).nodup_iff).1 (gs_key G)
  have hsub : ∀ y, y ∈ (S.rm x.f0).all → y ∈ S.all := fun y hy => by rw [rm_all] at hy; exact (List.mem_filter.1 hy).1
  have hi : ∃ u, (x.f0, u) ∈ S.ids := by
    rcases List.mem_append.1 hx with q | q
    · obtain ⟨n, hn, rfl⟩ := List.mem_map.1 q
      exact ⟨_, List.mem_append.2 (.inl (List.mem_map.2 ⟨n, hn, rfl⟩))⟩
    · exact ⟨_, List.mem_append.2 (.inr (List.mem_map.2 ⟨x, q, rfl⟩))⟩
  obtain ⟨u, hu⟩ := hi
  refine ⟨?_, ?_, ?_, ?_, ?_, ?_, ?_, ?_, ?_, G.n0, G.l0, ?_⟩
  · rw [rm_ids]
    exact del_to (ids_key G) (G.pi.trans (perm_ne (·.1) hki hu))
  · rw [rm_own]
    have hx' : owP x ∈ S.own := List.mem_map.2 ⟨x, hx, rfl⟩
    exact del_to (own_key G) (G.po.trans (perm_ne (fun p : Int × Value => p.1) hko hx'))
  · unfold gsD TS.gs
    rw [rm_sl]
    by_cases h : x.f1 = 1
    · rw [if_pos h]
      have hsl : x ∈ S.sl := List.mem_filter.2 ⟨hx, by simpa using h⟩
      have hn : (S.sl.map (fun y => y.f0)).Nodup := G.ni.sublist ((List.filter_sublist (l := S.all)).map _)
      have hp := (perm_ne (fun y : Tm => y.f0) hn hsl).map gsP
      exact del_to (gs_key G) (G.pg.trans hp)
    · rw [if_neg h, filter_none (fun y : Tm => y.f0)]
      · exact G.pg
      · intro y hy e
        have h1 := List.mem_filter.1 hy
        have := nodup_inj (fun y : Tm => y.f0) G.ni h1.1 hx e
        rw [this] at h1
        exact h (by simpa using h1.2)
  · rw [rm_all]
    exact G.ni.sublist ((List.filter_sublist (l := S.all)).map _)
  · rw [rm_sl]
    exact G.ng.sublist ((List.filter_sublist (l := S.sl)).map _)
  · intro n hn
    exact G.hd n (List.mem_filter.1 hn).1
  · intro n hn
    exact G.nd n (List.mem_filter.1 hn).1
  · intro y hy
    exact G.idl y (hsub y hy)
  · intro n hn
    exact G.num n (List.mem_filter.1 hn).1
  · rw [rm_all]
    exact Nat.le_trans (List.length_filter_le _ _) G.len
theorem rm_hp {S : TS} {ids own : List (Int × Value)} {gs : List ((Int × Int) × Value)} (G : Good S ids own gs) {n : NI} (hn : n ∈ S.hp) : S.hp.Perm (n :: (S.rm n.val.f0).hp) ∧ (S.rm n.val.f0).nv = S.nv := by
  refine ⟨perm_ne (fun n : NI => n.val.f0) (hp_key G) hn, filter_none (fun x : Tm => x.f0) (fun y hy e => ?_)⟩
  have := G.ni
  unfold TS.all at this
  rw [List.map_append, List.nodup_append] at this
  exact this.2.2 n.val.f0 (List.mem_map.2 ⟨n.val, List.mem_map.2 ⟨n, hn, rfl⟩, rfl⟩) y.f0 (List.mem_map.2 ⟨y, hy, rfl⟩) e.symm
theorem rm_nv {S : TS} {ids own : List (Int × Value)} {gs : List ((Int × Int) × Value)} (G : Good S ids own gs) {x : Tm} (hx : x ∈ S.nv) : (S.rm x.f0).hp = S.hp := by
  refine filter_none (fun n : NI => n.val.f0) (fun n hn e => ?_)
  have := G.ni
  unfold TS.all at this
  rw [List.map_append, List.nodup_append] at this
  exact this.2.2 n.val.f0 (List.mem_map.2 ⟨n.val, List.mem_map.2 ⟨n, hn, rfl⟩, rfl⟩) x.f0 (List.mem_map.2 ⟨x, hx, rfl⟩) e
theorem erase_ne {α : Type} (f : α → Int) : ∀ {l : List α}, (l.map f).Nodup → ∀ {i : Nat} (h : i < l.length), l.eraseIdx i = l.filter (fun y => f y != f l[i])
  | [], _, _, h => absurd h (Nat.not_lt_zero _)
  | a :: r, hn, i, h => by
    rw [List.map_cons, List.nodup_cons] at hn
    cases i with
    | zero =>
      rw [List.filter_cons]
      simp only [List.getElem_cons_zero, bne_self_eq_false, Bool.false_eq_true, if_false, List.eraseIdx_zero, List.tail_cons]
      exact (filter_none f (fun y hy q => hn.1 (List.mem_map.2 ⟨y, hy, q⟩))).symm
    | succ i =>
      have h' : i < r.length := by simpa using h
      rw [List.filter_cons]
      simp only [List.getElem_cons_succ, List.eraseIdx_cons_succ]
      rw [if_pos (by simpa using fun q : f a = f r[i] => hn.1 (List.mem_map.2 ⟨r[i], List.getElem_mem h', q.symm⟩)), erase_ne f hn.2 h']
end Go.Proofs.Ytceopcfmhidjlaa.PTimerPlays

/- What Due takes, and what it arms again. Plain. Conditions: each theorem's own. -/
import Derived.Test.YtceopcfmhidjlaaTag
import Derived.Test.YtceopcfmhidjlaaTa3
set_option linter.unusedVariables false
set_option linter.unusedSimpArgs false
namespace Go.Proofs.Ytceopcfmhidjlaa.PTimerPlays
open Go.RowKit Go.Proofs.Ytceopcfmhidjlaa.Ef Go.Proofs.Ytceopcfmhidjlaa.Mp Go.Proofs.Ytceopcfmhidjlaa.Hp

/-- Those that are due are taken, the first one first. -/
inductive Path (now : Int) (S : TS) : List Tm → TS → Prop
  | nil : Path now S [] S
  | snoc {l : List Tm} {S1 : TS} {n : NI} : Path now S l S1 → Least S1.hp n → n.when ≤ now → Path now S (l ++ [n.val]) (S1.rm n.val.f0)
def rearm (now : Int) (S : TS) (x : Tm) : TS := if x.f1 = 3 then S.arm (again now x) else S
/-- The numbers are such as the code's types hold. -/
structure Rg (x : Tm) : Prop where
  t0 : 0 ≤ x.f4
  t1 : x.f4 < 18446744073709551616
  p0 : 0 ≤ x.f6
  p1 : x.f6 < 18446744073709551616
  pp : x.f1 = 3 → 0 < x.f6
def Rng (S : TS) : Prop := ∀ x ∈ S.all, Rg x
theorem rm_mem {S : TS} {id : Int} {x : Tm} (h : x ∈ (S.rm id).all) : x ∈ S.all := by rw [rm_all] at h; exact (List.mem_filter.1 h).1
/-- The plain core of Good. -/
structure Fine (S : TS) : Prop where
  ni : (S.all.map (·.f0)).Nodup
  hd : ∀ n ∈ S.hp, n.val.f5 = false ∧ n.val.f4 = n.when
  len : S.all.length ≤ 1024
theorem Good.plain {S : TS} {ids own : List (Int × Value)} {gs : List ((Int × Int) × Value)} (G : Good S ids own gs) : Fine S := ⟨G.ni, G.hd, G.len⟩
theorem Fine.rm {S : TS} (F : Fine S) (id : Int) : Fine (S.rm id) := by
  refine ⟨?_, fun n hn => F.hd n (List.mem_filter.1 hn).1, ?_⟩
  · rw [rm_all]; exact F.ni.sublist ((List.filter_sublist (l := S.all)).map _)
  · rw [rm_all]; exact Nat.le_trans (List.length_filter_le _ _) F.len
structure PathSays (now : Int) (S : TS) (l : List Tm) (S1 : TS) : Prop where
  perm : S.all.Perm (l ++ S1.all)
  due : ∀ x ∈ l, x.f4 ≤ now ∧ x.f5 = false
  nv : S1.nv = S.nv
  next : S1.next = S.next
  last : S1.last = S.last
  fine : Fine S1
theorem Path.says {now : Int} {S : TS} (F : Fine S) {l : List Tm} {S1 : TS} (h : Path now S l S1) : PathSays now S l S1 := by
  induction h with
  | nil => exact ⟨.refl _, fun _ h => (by cases h), rfl, rfl, rfl, F⟩
  | snoc hp hL hw ih =>
    rename_i l S1 n
    have hm : n.val ∈ S1.all := List.mem_append.2 (.inl (List.mem_map.2 ⟨n, hL.1, rfl⟩))
    have hd := ih.fine.hd n hL.1
    refine ⟨?_, ?_, ?_, ih.next, ih.last, ih.fine.rm _⟩
    · rw [rm_all, List.append_assoc]
      exact ih.perm.trans ((perm_ne (fun y : Tm => y.f0) ih.fine.ni hm).append_left l)
    · intro x hx
      rcases List.mem_append.1 hx with q | q
      · exact ih.due x q
      · rw [List.mem_singleton.1 q]; exact ⟨by rw [hd.2]; exact hw, hd.1⟩
    · refine Eq.trans (filter_none (fun x : Tm => x.f0) (fun y hy e => ?_)) ih.nv
      have := ih.fine.ni
      unfold TS.all at this
      rw [List.map_append, List.nodup_append] at this
      exact this.2.2 n.val.f0 (List.mem_map.2 ⟨n.val, List.mem_map.2 ⟨n, hL.1, rfl⟩, rfl⟩) y.f0 (List.mem_map.2 ⟨y, hy, rfl⟩) e.symm
theorem again_id (now : Int) (x : Tm) : (again now x).f0 = x.f0 ∧ (again now x).f1 = x.f1 := by
  unfold again
  by_cases h : (18446744073709551615 - x.f4) / x.f6 ≤ (now - x.f4) / x.f6
  · rw [if_pos h]; exact ⟨rfl, rfl⟩
  · rw [if_neg h]; exact ⟨rfl, rfl⟩
structure FoldSays (now : Int) (S1 : TS) (l : List Tm) (F : TS) : Prop where
  mem : ∀ y ∈ F.all, y ∈ S1.all ∨ ∃ z ∈ l, z.f1 = 3 ∧ y = again now z
  len : F.all.length ≤ S1.all.length + l.length
  next : F.next ≤ S1.next + l.length ∧ S1.next ≤ F.next
  last : F.last = S1.last
theorem fold_says (now : Int) (S1 : TS) : ∀ l : List Tm, FoldSays now S1 l (l.foldl (rearm now) S1) := by
  intro l
  suffices h : ∀ (l : List Tm) (S : TS) (l0 : List Tm), FoldSays now S1 l0 S → FoldSays now S1 (l0 ++ l) (l.foldl (rearm now) S) by
    exact h l S1 [] ⟨fun y hy => .inl hy, Nat.le_refl _, ⟨by show S1.next ≤ S1.next + 0; omega, Int.le_refl _⟩, rfl⟩
  intro l
  induction l with
  | nil => intro S l0 h; rw [List.append_nil]; exact h
  | cons x r ih =>
    intro S l0 h
    have e : l0 ++ x :: r = (l0 ++ [x]) ++ r := by simp
    rw [e, List.foldl_cons]
    refine ih _ _ ?_
    unfold rearm
    by_cases h3 : x.f1 = 3
    · rw [if_pos h3]
      have hp := arm_all S (again now x)
      have hn := arm_next S (again now x)
      refine ⟨fun y hy => ?_, ?_, ⟨?_, ?_⟩, by rw [arm_last, h.last]⟩
      · rcases List.mem_append.1 (hp.mem_iff.1 hy) with q | q
        · rcases h.mem y q with q | ⟨z, hz, q⟩
          · exact .inl q
          · exact .inr ⟨z, List.mem_append.2 (.inl hz), q⟩
        · exact .inr ⟨x, List.mem_append.2 (.inr List.mem_cons_self), h3, List.mem_singleton.1 q⟩
      · rw [hp.length_eq, List.length_append, List.length_append]
        have := h.len
        simp only [List.length_singleton]
        omega
      · have := h.next.1
        rw [List.length_append, List.length_singleton]
        omega
      · exact Int.le_trans h.next.2 hn.1
    · rw [if_neg h3]
      refine ⟨fun y hy => ?_, ?_, ⟨?_, h.next.2⟩, h.last⟩
      · rcases h.mem y hy with q | ⟨z, hz, q⟩
        · exact .inl q
        · exact .inr ⟨z, List.mem_append.2 (.inl hz), q⟩
      · have := h.len
        rw [List.length_append]
        omega
      · have := h.next.1
        rw [List.length_append, List.length_singleton]
        omega
/-- A ticker that was told may be armed again. -/
theorem fold_fresh {now : Int} {S S1 : TS} {l : List Tm} (F : Fine S) (hp : Path now S l S1) (hl : ∀ x ∈ S.all, x.f0 ≤ S.last) {i : Nat} (hi : i < l.length) (h3 : (tn l i).f1 = 3) : Fresh ((l.take i).foldl (rearm now) S1) (again now (tn l i)) := by
  have P := hp.says F
  have Q := fold_says now S1 (l.take i)
  obtain ⟨e0, e1⟩ := again_id now (tn l i)
  have et : tn l i = l[i] := by unfold tn; rw [List.getElem?_eq_getElem hi]; rfl
  have hn : ((l ++ S1.all).map (·.f0)).Nodup := ((P.perm.map (·.f0)).nodup_iff).1 F.ni
  rw [List.map_append, List.nodup_append] at hn
  have hmem : tn l i ∈ l := by rw [et]; exact List.getElem_mem hi
  refine ⟨fun y hy e => ?_, fun h => absurd h (by rw [e1, h3]; decide), ?_, ?_⟩
  · rw [e0] at e
    rcases Q.mem y hy with q | ⟨z, hz, _, rfl⟩
    · exact hn.2.2 (tn l i).f0 (List.mem_map.2 ⟨_, hmem, rfl⟩) y.f0 (List.mem_map.2 ⟨y, q, rfl⟩) e.symm
    · rw [(again_id now z).1] at e
      obtain ⟨j, hj, rfl⟩ := List.getElem_of_mem hz
      rw [List.length_take] at hj
      rw [List.getElem_take, et] at e
      have h1 := List.pairwise_iff_getElem.1 (List.nodup_iff_pairwise_ne.1 hn.1) j i (by rw [List.length_map]; omega) (by rw [List.length_map]; omega) (by omega)
      rw [List.getElem_map, List.getElem_map] at h1
      exact h1 e
  · rw [e0, Q.last, P.last]
    exact hl _ (P.perm.mem_iff.2 (List.mem_append.2 (.inl hmem)))
  · have h1 := Q.len
    have h2 := P.perm.length_eq
    rw [List.length_append] at h2
    have h3 := F.len
    rw [List.length_take] at h1
    omega
theorem fold_step {now : Int} {S1 : TS} {l : List Tm} {i : Nat} (hi : i < l.length) : (l.take (i + 1)).foldl (rearm now) S1 = rearm now ((l.take i).foldl (rearm now) S1) (tn l i) := by
  have et : tn l i = l[i] := by unfold tn; rw [List.getElem?_eq_getElem hi]; rfl
  rw [List.take_succ_eq_append_getElem hi, List.foldl_append, et]
  rfl
theorem HP.least {w : World} {base p : Nat} {ok : Nat → Prop} {items : List NI} {next : Int} (h : HP w base p ok items next) (hne : items ≠ []) : ∃ x, Least items x := by
  obtain ⟨mb, v, l, m, h1, h2, h3⟩ := h
  have hl : 0 < l.length := by rw [h3.length_eq]; exact List.length_pos_iff.2 hne
  exact ⟨nd l 0, h3.mem_iff.1 (nd_mem hl), fun y hy => top_spec h2 y (h3.mem_iff.2 hy)⟩
end Go.Proofs.Ytceopcfmhidjlaa.PTimerPlays

/- Due asked at one time, or at an earlier one and then at that one. Plain. Conditions: each theorem's own. -/
import Derived.Test.YtceopcfmhidjlaaTny
import Derived.Test.YtceopcfmhidjlaaPTimerPlaysx3
set_option linter.unusedVariables false
set_option linter.unusedSimpArgs false
namespace Go.Proofs.Ytceopcfmhidjlaa.PTimerPlays
open Go.RowKit Go.Proofs.Ytceopcfmhidjlaa.Ef Go.Proofs.Ytceopcfmhidjlaa.Mp Go.Proofs.Ytceopcfmhidjlaa.Hp Go.Proofs.YtceopcfmhidjlaaW.PrintWords Go.Proofs.YtceopcfmhidjlaaW.PrintLast Go.Proofs.YtceopcfmhidjlaaW.PrintMore

theorem lt_asymm {x y : NI} (h1 : lt x y) (h2 : lt y x) : False := by unfold lt at h1 h2; omega
/-- Two lists in strict order with the same members are one. -/
theorem sorted_eq : ∀ {a b : List NI}, a.Pairwise lt → b.Pairwise lt → a.Perm b → a = b
  | [], b, _, _, hp => (hp.symm.eq_nil).symm
  | x :: r, [], _, _, hp => absurd hp.eq_nil (by simp)
  | x :: r, y :: s, ha, hb, hp => by
    have hxy : x = y := by
      have h1 : x ∈ y :: s := hp.mem_iff.1 List.mem_cons_self
      have h2 : y ∈ x :: r := hp.mem_iff.2 List.mem_cons_self
      rcases List.mem_cons.1 h1 with e | e
      · exact e
      · rcases List.mem_cons.1 h2 with e2 | e2
        · exact e2.symm
        · exact (lt_asymm ((List.pairwise_cons.1 hb).1 x e) ((List.pairwise_cons.1 ha).1 y e2)).elim
    subst hxy
    rw [sorted_eq (List.pairwise_cons.1 ha).2 (List.pairwise_cons.1 hb).2 hp.cons_inv]
/-- What Path takes, as nodes: in strict order, and ahead of what is left. -/
theorem Path.nodes {now : Int} {S : TS} (F : Fine S) (hO : Once S.hp) {l : List Tm} {S1 : TS} (h : Path now S l S1) :
    ∃ L : List NI, l = L.map (·.val) ∧ S.hp.Perm (L ++ S1.hp) ∧ L.Pairwise lt ∧ (∀ x ∈ L, ∀ y ∈ S1.hp, lt x y) ∧ (∀ x ∈ L, x.when ≤ now) ∧ Once S1.hp ∧ Fine S1 := by
  induction h with
  | nil => exact ⟨[], rfl, .refl _, .nil, fun _ h => (by cases h), fun _ h => (by cases h), hO, F⟩
  | snoc hp hL hw ih =>
    rename_i l S1 n
    obtain ⟨L, rfl, h1, h2, h3, h4, h5, h6⟩ := ih
    have hk : (S1.hp.map (fun m => m.val.f0)).Nodup := by
      have := h6.ni
      unfold TS.all at this
      rw [List.map_append, List.map_map] at this
      exact (List.nodup_append.1 this).1
    have hpm := perm_ne (fun m : NI => m.val.f0) hk hL.1
    have hsub : ∀ y ∈ (S1.rm n.val.f0).hp, y ∈ S1.hp := fun y hy => (List.mem_filter.1 hy).1
    have hlt : ∀ y ∈ (S1.rm n.val.f0).hp, lt n y := fun y hy => by
      have hne : y.num ≠ n.num := fun e => by
        have := once_mem h5 (hsub y hy) hL.1 e
        have h9 := (List.mem_filter.1 hy).2
        rw [this] at h9
        simp at h9
      have := hL.2 y (hsub y hy)
      unfold lt at this ⊢
      omega
    refine ⟨L ++ [n], by simp, ?_, ?_, ?_, ?_, ?_, h6.rm _⟩
    · rw [List.append_assoc]
      exact h1.trans (hpm.append_left L)
    · rw [List.pairwise_append]
      refine ⟨h2, List.pairwise_singleton _ _, fun x hx y hy => ?_⟩
      rw [List.mem_singleton.1 hy]
      exact h3 x hx n hL.1
    · intro x hx y hy
      rcases List.mem_append.1 hx with q | q
      · exact h3 x q y (hsub y hy)
      · rw [List.mem_singleton.1 q]; exact hlt y hy
    · intro x hx
      rcases List.mem_append.1 hx with q | q
      · exact h4 x q
      · rw [List.mem_singleton.1 q]; exact hw
    · unfold Once at h5 ⊢
      exact h5.sublist ((List.filter_sublist (l := S1.hp)).map _)
theorem filter_le {now : Int} {H L R : List NI} (hp : H.Perm (L ++ R)) (hl : ∀ x ∈ L, x.when ≤ now) (hr : ∀ x ∈ R, now < x.when) : (H.filter (fun x => decide (x.when ≤ now))).Perm L ∧ (H.filter (fun x => decide (now < x.when))).Perm R := by
  have e1 : (L ++ R).filter (fun x => decide (x.when ≤ now)) = L := by
    rw [List.filter_append, List.filter_eq_self.2 (fun x hx => by simpa using hl x hx), List.filter_eq_nil_iff.2 (fun x hx => by have := hr x hx; simp; omega), List.append_nil]
  have e2 : (L ++ R).filter (fun x => decide (now < x.when)) = R := by
    rw [List.filter_append, List.filter_eq_nil_iff.2 (fun x hx => by have := hl x hx; simp; omega), List.filter_eq_self.2 (fun x hx => by simpa using hr x hx), List.nil_append]
  have h1 := hp.filter (fun x => decide (x.when ≤ now))
  have h2 := hp.filter (fun x => decide (now < x.when))
  rw [e1] at h1
  rw [e2] at h2
  exact ⟨h1, h2⟩
/-- What Due tells, as nodes. -/
theorem DueTo.nodes {now : Int} {S S' : TS} {l : List Tm} (F : Fine S) (hO : Once S.hp) (hd : DueTo now S l S') :
    ∃ (L : List NI) (S1 : TS), l = L.map (·.val) ∧ (S.hp.filter (fun x => decide (x.when ≤ now))).Perm L ∧ (S.hp.filter (fun x => decide (now < x.when))).Perm S1.hp ∧ L.Pairwise lt ∧ S' = l.foldl (rearm now) S1 ∧ PathSays now S l S1 := by
  obtain ⟨S1, hp, hm, rfl⟩ := hd
  obtain ⟨L, h1, h2, h3, h4, h5, h6, h7⟩ := hp.nodes F hO
  obtain ⟨q1, q2⟩ := filter_le h2 h5 hm
  exact ⟨L, S1, h1, q1, q2, h3, rfl, hp.says F⟩
abbrev ntN (x : NI) : Bool := x.val.f1 != 3
def ntV (l : List Tm) : List Tm := l.filter (fun x => x.f1 != 3)
theorem ntV_map (L : List NI) : ntV (L.map (·.val)) = (L.filter ntN).map (·.val) := by
  unfold ntV
  rw [List.filter_map]
  rfl
/-- Arming again adds tickers alone, each behind. -/
theorem fold_hp (now : Int) : ∀ (l : List Tm) (S : TS), (l.foldl (rearm now) S).hp.filter ntN = S.hp.filter ntN
  | [], S => rfl
  | x :: r, S => by
    rw [List.foldl_cons, fold_hp now r]
    unfold rearm
    by_cases h3 : x.f1 = 3
    · rw [if_pos h3]
      unfold TS.arm
      by_cases h5 : (again now x).f5 = true
      · rw [if_pos h5]
      · rw [if_neg h5]
        show (S.hp ++ [_]).filter ntN = _
        rw [List.filter_append]
        have : ntN ⟨(again now x).f4, S.next, again now x⟩ = false := by
          show ((again now x).f1 != 3) = false
          rw [(again_id now x).2, h3]
          rfl
        rw [List.filter_cons, this]
        simp
    · rw [if_neg h3]
theorem filter_comm {α : Type} (p q : α → Bool) (l : List α) : (l.filter p).filter q = (l.filter q).filter p := by
  rw [List.filter_filter, List.filter_filter]
  congr 1
  funext x
  exact Bool.and_comm _ _
/-- T7, plain. -/
theorem parts_plain {a b : Int} (hab : a ≤ b) {S S2 S3 S4 : TS} {l1 l2 l3 : List Tm} (F : Fine S) (hO : Once S.hp) (F2 : Fine S2) (hO2 : Once S2.hp)
    (d1 : DueTo a S l1 S2) (d2 : DueTo b S2 l2 S3) (d3 : DueTo b S l3 S4) : ntV (l1 ++ l2) = ntV l3 := by
  obtain ⟨L1, R1, rfl, p1, r1, s1, e1, _⟩ := d1.nodes F hO
  obtain ⟨L2, R2, rfl, p2, r2, s2, e2, _⟩ := d2.nodes F2 hO2
  obtain ⟨L3, R3, rfl, p3, r3, s3, e3, _⟩ := d3.nodes F hO
  have hh : S2.hp.filter ntN = R1.hp.filter ntN := by rw [e1]; exact fold_hp a _ R1
  have q2 : (L2.filter ntN).Perm ((S.hp.filter ntN).filter (fun x => decide (a < x.when ∧ x.when ≤ b))) := by
    have h1 := (p2.filter ntN).symm
    rw [filter_comm, hh] at h1
    have h2 := ((r1.filter ntN).symm.filter (fun x => decide (x.when ≤ b)))
    refine h1.trans (h2.trans (List.Perm.of_eq ?_))
    rw [filter_comm (fun x : NI => decide (a < x.when)), List.filter_filter]
    congr 1
    funext x
    by_cases q : a < x.when <;> by_cases q2 : x.when ≤ b <;> simp [q, q2]
  have q1 : (L1.filter ntN).Perm ((S.hp.filter ntN).filter (fun x => decide (x.when ≤ a))) := by
    have h1 := (p1.filter ntN).symm
    rw [filter_comm] at h1
    exact h1
  have q3 : (L3.filter ntN).Perm ((S.hp.filter ntN).filter (fun x => decide (x.when ≤ b))) := by
    have h1 := (p3.filter ntN).symm
    rw [filter_comm] at h1
    exact h1
  have hsplit : ∀ H : List NI, (H.filter (fun x => decide (x.when ≤ b))).Perm (H.filter (fun x => decide (x.when ≤ a)) ++ H.filter (fun x => decide (a < x.when ∧ x.when ≤ b))) := by
    intro H
    induction H with
    | nil => exact .refl _
    | cons x r ih =>
      by_cases h1 : x.when ≤ a
      · rw [List.filter_cons, if_pos (by simp; omega), List.filter_cons, if_pos (by simpa using h1), List.filter_cons, if_neg (by simp; omega)]
        exact ih.cons _
      · by_cases h2 : x.when ≤ b
        · rw [List.filter_cons, if_pos (by simpa using h2), List.filter_cons, if_neg (by simpa using h1), List.filter_cons, if_pos (by simp; omega)]
          exact (ih.cons _).trans List.perm_middle.symm
        · rw [List.filter_cons, if_neg (by simpa using h2), List.filter_cons, if_neg (by simpa using h1), List.filter_cons, if_neg (by simp; omega)]
          exact ih
  have hp : (L1.filter ntN ++ L2.filter ntN).Perm (L3.filter ntN) := ((q1.append q2).trans (hsplit _).symm).trans q3.symm
  have hs : (L1.filter ntN ++ L2.filter ntN).Pairwise lt := by
    rw [List.pairwise_append]
    refine ⟨s1.filter _, s2.filter _, fun x hx y hy => ?_⟩
    have h1 := (List.mem_filter.1 (q1.mem_iff.1 hx)).2
    have h2 := (List.mem_filter.1 (q2.mem_iff.1 hy)).2
    simp only [decide_eq_true_eq] at h1 h2
    unfold lt
    omega
  have e := sorted_eq hs (s3.filter _) hp
  rw [← List.map_append, ntV_map, ntV_map, List.filter_append, e]
/-! ### a script leads to one state -/
theorem path_det {now : Int} {S : TS} (F : Fine S) (hO : Once S.hp) {l l' : List Tm} {S1 S2 : TS} (h1 : Path now S l S1) (m1 : ∀ n ∈ S1.hp, now < n.when) (h2 : Path now S l' S2) (m2 : ∀ n ∈ S2.hp, now < n.when) : l = l' ∧ S1 = S2 := by
  obtain ⟨L, e1, p1, s1, a1, w1, _, _⟩ := h1.nodes F hO
  obtain ⟨L', e2, p2, s2, a2, w2, _, _⟩ := h2.nodes F hO
  have q1 := (filter_le p1 w1 m1).1
  have q2 := (filter_le p2 w2 m2).1
  have e := sorted_eq s1 s2 (q1.symm.trans q2)
  have el : l = l' := by rw [e1, e2, e]
  have hS : ∀ {l : List Tm} {S1 : TS}, Path now S l S1 → S1 = { S with hp := S.hp.filter (fun n => !(l.any (fun x => x.f0 == n.val.f0))), nv := S.nv.filter (fun y => !(l.any (fun x => x.f0 == y.f0))) } := by
    intro l S1 h
    induction h with
    | nil =>
      show S = { S with hp := S.hp.filter (fun _ => true), nv := S.nv.filter (fun _ => true) }
      rw [List.filter_eq_self.2 (fun _ _ => rfl), List.filter_eq_self.2 (fun _ _ => rfl)]
    | snoc hp hL hw ih =>
      rename_i l S1 n
      rw [ih]
      unfold TS.rm
      have hb : ∀ u : Int, ((u != n.val.f0) && !(l.any (fun x => x.f0 == u))) = !((l ++ [n.val]).any (fun x => x.f0 == u)) := fun u => by
        rw [List.any_append, Bool.not_or, List.any_cons, List.any_nil, Bool.or_false, Bool.and_comm]
        congr 1
        by_cases q : u = n.val.f0
        · subst q; simp
        · have e1 : (u != n.val.f0) = true := by simpa using q
          have e2 : (n.val.f0 == u) = false := by simpa using fun e : n.val.f0 = u => q e.symm
          rw [e1, e2]
          rfl
      simp only [List.filter_filter, hb]
  exact ⟨el, by rw [hS h1, hS h2, el]⟩
theorem does_det {S S1 S2 : TS} {o : OpT} (F : Fine S) (hO : Once S.hp) (h1 : Does S o S1) (h2 : Does S o S2) : S1 = S2 := by
  rcases h1 with ⟨a, e⟩ | ⟨a, e⟩ | ⟨a, e⟩ | ⟨a, e⟩ | ⟨a, l, e⟩ | ⟨a, e⟩ <;> rcases h2 with ⟨b, f⟩ | ⟨b, f⟩ | ⟨b, f⟩ | ⟨b, f⟩ | ⟨b, m, f⟩ | ⟨b, f⟩
  all_goals first
    | (rw [e, f]; done)
    | (rw [a] at b; exact absurd b (by decide))
    | (obtain ⟨b0, b1, b2, b3, b4⟩ := b; first | exact absurd a b0 | exact absurd a b1 | exact absurd a b2 | exact absurd a b3 | exact absurd a b4)
    | (obtain ⟨a0, a1, a2, a3, a4⟩ := a; first | exact absurd b a0 | exact absurd b a1 | exact absurd b a2 | exact absurd b a3 | exact absurd b a4)
    | skip
  obtain ⟨T1, p1, m1, rfl⟩ := e
  obtain ⟨T2, p2, m2, rfl⟩ := f
  obtain ⟨rfl, rfl⟩ := path_det F hO p1 m1 p2 m2
  rfl
theorem runs_det {l : List OpT} {S : TS} (h : Runs l S) : ∀ {S' : TS}, Runs l S' → S = S' := by
  induction h with
  | nil =>
    intro S' h2
    generalize hm : ([] : List OpT) = m at h2
    cases h2 with
    | nil => rfl
    | snoc _ _ _ _ => exact absurd hm.symm (by simp)
  | snoc hr F hO hd ih =>
    rename_i l S S1 o
    intro S' h2
    generalize hm : l ++ [o] = m at h2
    cases h2 with
    | nil => exact absurd hm (by simp)
    | snoc hr2 F2 hO2 hd2 =>
      obtain ⟨e1, e2⟩ := List.append_inj' hm rfl
      subst e1
      obtain rfl := (List.cons.inj e2).1
      obtain rfl := ih hr2
      exact does_det F hO hd hd2
theorem due_len {now : Int} {S S' : TS} {l : List Tm} (F : Fine S) (hd : DueTo now S l S') : l.length ≤ 1024 := by
  obtain ⟨S1, hp, _, _⟩ := hd
  have h1 := (hp.says F).perm.length_eq
  have h2 := F.len
  rw [List.length_append] at h1
  omega
/-! ### the document's Same -/
theorem same_self (l : List Tm) (hl : l.length ≤ 1000000) : ∀ (d : Nat) (i : Nat), i + d = l.length → rotaref14_Same.l0 (d + 1) l l (i : Int) = some true
  | 0, i, h => by
    unfold rotaref14_Same.l0
    rw [if_neg (by omega)]
  | d + 1, i, h => by
    unfold rotaref14_Same.l0
    rw [if_pos (by omega), if_pos (by omega), if_pos (by omega), if_neg (by simp)]
    have : wrap64 ((i : Int) + 1) = ((i + 1 : Nat) : Int) := by
      simp [wrap64, IntKind.wrap]
      omega
    rw [this]
    exact same_self l hl d (i + 1) (by omega)
theorem same_f (l : List Tm) (hl : l.length ≤ 1000000) : rotaref14_Same.f (l.length + 1) l l = some true := by
  unfold rotaref14_Same.f
  rw [if_pos rfl]
  exact same_self l hl l.length 0 (by omega)
end Go.Proofs.Ytceopcfmhidjlaa.PTimerPlays

/- A mutex and eight that use it. Plain. Conditions: each theorem's own. -/
import Derived.Test.YtielcanihooagaaDoorSas
set_option linter.unusedVariables false
set_option linter.unusedSimpArgs false
namespace Go.Proofs.YtielcanihooagaaDoor.PSemaExcludes
open Go.RowKit Go.Proofs.YtielcanihooagaaDoor.Ef Go.Proofs.YtielcanihooagaaDoor.Mp Go.Proofs.YtielcanihooagaaDoorW.PrintWords Go.Proofs.YtielcanihooagaaDoorW.PrintLast Go.Proofs.YtielcanihooagaaDoorW.PrintMore

abbrev sn (st : List Int) (g : Nat) : Int := st.getD g 0
def wt (b : Bool) : Int := if b = true then 3 else 1
structure Inv0 (st : List Int) (lo : Bool) (rd : Int) (q : List S83) : Prop where
  len : st.length = 8
  val : ∀ g, g < 8 → sn st g = 0 ∨ sn st g = 1 ∨ sn st g = 2 ∨ sn st g = 3 ∨ sn st g = 4
  q1 : ∀ x ∈ q, ∃ g : Nat, g < 8 ∧ x.f0 = ⟨(g : Int), 1⟩ ∧ sn st g = wt x.f1
  q2 : ∀ g, g < 8 → (sn st g = 1 ∨ sn st g = 3) → ∃ x ∈ q, x.f0 = ⟨(g : Int), 1⟩
  nd : (q.map (·.f0)).Nodup
  c2 : st.count 2 = if lo = true then 1 else 0
  c4 : (st.count 4 : Int) = rd
  ex : lo = true → rd = 0
  ql : q.length = st.count 1 + st.count 3
def wake (st : List Int) (w : S34) : List Int := st.set w.f0.toNat (sn st w.f0.toNat + 1)
theorem sn_set {st : List Int} {g k : Nat} {v : Int} (h : g < st.length) : sn (st.set g v) k = if g = k then v else sn st k := by
  unfold sn
  rw [List.getD_eq_getElem?_getD, List.getD_eq_getElem?_getD, List.getElem?_set]
  by_cases e : g = k
  · subst e; rw [if_pos rfl, if_pos rfl, if_pos h]; rfl
  · rw [if_neg e, if_neg e]
theorem cnt_set {st : List Int} {g : Nat} {v : Int} (h : g < st.length) (c : Int) : (st.set g v).count c + (if sn st g = c then 1 else 0) = st.count c + (if v = c then 1 else 0) := by
  have e : sn st g = st[g] := by simp [sn, h]
  have h1 := List.count_set (a := v) (b := c) h
  have h2 : st[g] = c → 0 < st.count c := fun q => List.count_pos_iff.2 (q ▸ List.getElem_mem h)
  rw [e, h1]
  by_cases q1 : st[g] = c
  · have := h2 q1
    by_cases q2 : v = c <;> simp [q1, q2] <;> omega
  · by_cases q2 : v = c <;> simp [q1, q2]
/-- One that waits for the first place gets it. -/
theorem Inv0.step {st : List Int} {lo : Bool} {rd : Int} {x : S83} {r : List S83} (h : Inv0 st lo rd (x :: r)) (hg : goesB (x :: r) lo rd = true) :
    Inv0 (wake st x.f0) (if x.f1 = true then lo else true) (if x.f1 = true then rd + 1 else rd) r ∧ 0 ≤ x.f0.f0 ∧ x.f0.f0 ≤ 7 ∧ (sn st x.f0.f0.toNat = 1 ∨ sn st x.f0.f0.toNat = 3) := by
  obtain ⟨g, hg8, hx, hs⟩ := h.q1 x List.mem_cons_self
  have hgt : x.f0.f0.toNat = g := by rw [hx]; exact Int.toNat_natCast g
  have hgl : g < st.length := by rw [h.len]; exact hg8
  have hnd := h.nd
  rw [List.map_cons, List.nodup_cons] at hnd
  have hgo : lo = false ∧ (x.f1 = true ∨ rd = 0) := by
    have : (!lo && (x.f1 || rd == 0)) = true := hg
    simp only [Bool.and_eq_true, Bool.not_eq_true', Bool.or_eq_true, beq_iff_eq] at this
    exact this
  have hw : wake st x.f0 = st.set g (wt x.f1 + 1) := by unfold wake; rw [hgt, hs]
  have hql := h.ql
  rw [List.length_cons] at hql
  have c1 := cnt_set (v := wt x.f1 + 1) hgl 1
  have c2 := cnt_set (v := wt x.f1 + 1) hgl 2
  have c3 := cnt_set (v := wt x.f1 + 1) hgl 3
  have c4 := cnt_set (v := wt x.f1 + 1) hgl 4
  have k2 := h.c2
  have k4 := h.c4
  rw [hgo.1] at k2
  rw [hs] at c1 c2 c3 c4
  refine ⟨?_, by rw [hx]; show (0 : Int) ≤ (g : Int); omega, by rw [hx]; show (g : Int) ≤ 7; omega, ?_⟩
  · rw [hw]
    have hne : ∀ y ∈ r, ∀ k : Nat, y.f0 = ⟨(k : Int), 1⟩ → g ≠ k := fun y hy k e z => hnd.1 (List.mem_map.2 ⟨y, hy, by rw [e, hx, z]⟩)
    refine ⟨by rw [List.length_set]; exact h.len, fun k hk => ?_, fun y hy => ?_, fun k hk hv => ?_, hnd.2, ?_, ?_, ?_, ?_⟩
    · rw [sn_set hgl]
      by_cases e : g = k
      · rw [if_pos e]; unfold wt; cases x.f1 <;> simp
      · rw [if_neg e]; exact h.val k hk
    · obtain ⟨k, k1, k2, k3⟩ := h.q1 y (List.mem_cons_of_mem _ hy)
      exact ⟨k, k1, k2, by rw [sn_set hgl, if_neg (hne y hy k k2)]; exact k3⟩
    · rw [sn_set hgl] at hv
      by_cases e : g = k
      · rw [if_pos e] at hv; unfold wt at hv; cases hb : x.f1 <;> simp [hb] at hv
      · rw [if_neg e] at hv
        obtain ⟨y, hy, hyk⟩ := h.q2 k hk hv
        rcases List.mem_cons.1 hy with rfl | hy
        · rw [hx] at hyk
          have := congrArg S34.f0 hyk
          simp only at this
          omega
        · exact ⟨y, hy, hyk⟩
    · cases hb : x.f1 <;> simp [hb, wt, hgo.1] at c2 k2 ⊢ <;> omega
    · cases hb : x.f1 <;> simp [hb, wt] at c4 ⊢ <;> omega
    · cases hb : x.f1
      · intro _; rcases hgo.2 with q | q
        · rw [hb] at q; cases q
        · simp [q]
      · intro q; simp [hgo.1] at q
    · cases hb : x.f1 <;> simp [hb, wt] at c1 c3 ⊢ <;> omega
  · rw [hgt, hs]
    unfold wt
    cases x.f1 <;> simp
theorem hand_inv : ∀ (q : List S83) (st : List Int) (lo : Bool) (rd : Int), Inv0 st lo rd q → ∀ {q' : List S83} {lo' : Bool} {rd' : Int} {wk : List S34}, handM q lo rd = (q', lo', rd', wk) →
    Inv0 (wk.foldl wake st) lo' rd' q' ∧ goesB q' lo' rd' = false ∧ (∀ (k : Nat) (hk : k < wk.length), 0 ≤ wk[k].f0 ∧ wk[k].f0 ≤ 7 ∧ (sn ((wk.take k).foldl wake st) wk[k].f0.toNat = 1 ∨ sn ((wk.take k).foldl wake st) wk[k].f0.toNat = 3))
  | [], st, lo, rd, h, q', lo', rd', wk, hh => by
    unfold handM at hh
    cases hh
    exact ⟨h, rfl, fun k hk => absurd hk (Nat.not_lt_zero _)⟩
  | x :: r, st, lo, rd, h, q', lo', rd', wk, hh => by
    unfold handM at hh
    by_cases hg : goesB (x :: r) lo rd = true
    · rw [if_pos hg] at hh
      obtain ⟨h1, h2, h3, h4⟩ := h.step hg
      obtain ⟨a, b, c, d, e⟩ : ∃ a b c d, handM r (if x.f1 = true then lo else true) (if x.f1 = true then rd + 1 else rd) = (a, b, c, d) := ⟨_, _, _, _, rfl⟩
      rw [e] at hh
      cases hh
      obtain ⟨i1, i2, i3⟩ := hand_inv r _ _ _ h1 e
      refine ⟨i1, i2, fun k hk => ?_⟩
      cases k with
      | zero => exact ⟨h2, h3, h4⟩
      | succ k => exact i3 k (by simpa using hk)
    · rw [if_neg hg] at hh
      cases hh
      exact ⟨h, by simpa using hg, fun k hk => absurd hk (Nat.not_lt_zero _)⟩
structure Inv (st : List Int) (lo : Bool) (rd : Int) (q : List S83) : Prop where
  i : Inv0 st lo rd q
  g : goesB q lo rd = false
theorem Inv0.bound {st : List Int} {lo : Bool} {rd : Int} {q : List S83} (h : Inv0 st lo rd q) : 0 ≤ rd ∧ rd ≤ 8 ∧ q.length ≤ 16 := by
  have h1 := List.count_le_length (l := st) (a := (1 : Int))
  have h3 := List.count_le_length (l := st) (a := (3 : Int))
  have h4 := List.count_le_length (l := st) (a := (4 : Int))
  have := h.len; have := h.c4; have := h.ql
  omega
/-- One that has nothing asks. -/
theorem Inv.ask {st : List Int} {lo : Bool} {rd : Int} {q : List S83} (h : Inv st lo rd q) {g : Nat} (hg : g < 8) (h0 : sn st g = 0) (b : Bool) {q' : List S83} {lo' : Bool} {rd' : Int} {wk : List S34} (hh : handM (q ++ [⟨⟨(g : Int), 1⟩, b⟩]) lo rd = (q', lo', rd', wk)) :
    Inv (st.set g (if (!inG (g : Int) 1 wk) = true then wt b else wt b + 1)) lo' rd' q' ∧ wk.length ≤ 1 := by
  have hgl : g < st.length := by rw [h.i.len]; exact hg
  have I : Inv0 (st.set g (wt b)) lo rd (q ++ [⟨⟨(g : Int), 1⟩, b⟩]) := by
    have c1 := cnt_set (v := wt b) hgl 1
    have c2 := cnt_set (v := wt b) hgl 2
    have c3 := cnt_set (v := wt b) hgl 3
    have c4 := cnt_set (v := wt b) hgl 4
    have k2 := h.i.c2; have k4 := h.i.c4; have kl := h.i.ql
    rw [h0] at c1 c2 c3 c4
    refine ⟨by rw [List.length_set]; exact h.i.len, fun k hk => ?_, fun y hy => ?_, fun k hk hv => ?_, ?_, ?_, ?_, h.i.ex, ?_⟩
    · rw [sn_set hgl]
      by_cases e : g = k
      · rw [if_pos e]; unfold wt; cases b <;> simp
      · rw [if_neg e]; exact h.i.val k hk
    · rcases List.mem_append.1 hy with p | p
      · obtain ⟨k, k1, k2, k3⟩ := h.i.q1 y p
        refine ⟨k, k1, k2, ?_⟩
        rw [sn_set hgl, if_neg (fun e => by rw [← e, h0] at k3; unfold wt at k3; cases hb : y.f1 <;> simp [hb] at k3)]
        exact k3
      · rw [List.mem_singleton.1 p]
        exact ⟨g, hg, rfl, by rw [sn_set hgl, if_pos rfl]⟩
    · rw [sn_set hgl] at hv
      by_cases e : g = k
      · subst e; exact ⟨_, List.mem_append.2 (.inr (List.mem_singleton.2 rfl)), rfl⟩
      · rw [if_neg e] at hv
        obtain ⟨y, hy, hyk⟩ := h.i.q2 k hk hv
        exact ⟨y, List.mem_append.2 (.inl hy), hyk⟩
    · rw [List.map_append, List.nodup_append]
      refine ⟨h.i.nd, by simp, fun a ha c hc e => ?_⟩
      obtain ⟨y, hy, rfl⟩ := List.mem_map.1 ha
      obtain ⟨k, k1, k2, k3⟩ := h.i.q1 y hy
      have hc' : c = ⟨(g : Int), 1⟩ := by simpa using hc
      rw [hc', k2] at e
      have e2 := congrArg S34.f0 e
      simp only at e2
      have : k = g := by omega
      rw [this, h0] at k3
      unfold wt at k3
      cases hb : y.f1 <;> simp [hb] at k3
    · cases b <;> simp [wt] at c2 ⊢ <;> omega
    · cases b <;> simp [wt] at c4 ⊢ <;> omega
    · rw [List.length_append]
      cases b <;> simp [wt] at c1 c3 ⊢ <;> omega
  obtain ⟨i1, i2, _⟩ := hand_inv _ _ _ _ I hh
  have hw : wk = [] ∨ wk = [⟨(g : Int), 1⟩] := by
    cases q with
    | nil =>
      rw [List.nil_append] at hh
      unfold handM at hh
      by_cases hgo : goesB [⟨⟨(g : Int), 1⟩, b⟩] lo rd = true
      · rw [if_pos hgo] at hh
        unfold handM at hh
        cases hh
        exact .inr rfl
      · rw [if_neg hgo] at hh
        cases hh
        exact .inl rfl
    | cons y r =>
      have : goesB (y :: r ++ [⟨⟨(g : Int), 1⟩, b⟩]) lo rd = goesB (y :: r) lo rd := rfl
      rw [List.cons_append] at hh this
      unfold handM at hh
      rw [this, h.g, if_neg (by decide)] at hh
      cases hh
      exact .inl rfl
  rcases hw with rfl | rfl
  · refine ⟨⟨?_, i2⟩, Nat.zero_le _⟩
    rw [if_pos (show (!inG (g : Int) 1 []) = true from rfl)]
    exact i1
  · refine ⟨⟨?_, i2⟩, Nat.le_refl _⟩
    rw [if_neg (show ¬ (!inG (g : Int) 1 [⟨(g : Int), 1⟩]) = true from by simp [inG])]
    have e : [(⟨(g : Int), 1⟩ : S34)].foldl wake (st.set g (wt b)) = st.set g (wt b + 1) := by
      show wake (st.set g (wt b)) ⟨(g : Int), 1⟩ = _
      unfold wake
      simp only [Int.toNat_natCast]
      rw [sn_set hgl, if_pos rfl, List.set_set]
    rw [e] at i1
    exact i1
/-- One that has locked, or reads, lets go. -/
theorem Inv.letgo {st : List Int} {lo : Bool} {rd : Int} {q : List S83} (h : Inv st lo rd q) {g : Nat} (hg : g < 8) (lo1 : Bool) (rd1 : Int) (hv : (sn st g = 2 ∧ lo1 = false ∧ rd1 = rd) ∨ (sn st g = 4 ∧ lo1 = lo ∧ rd1 = rd - 1)) :
    Inv0 (st.set g 0) lo1 rd1 q ∧ (sn st g = 2 → lo = true) ∧ (sn st g = 4 → 0 < rd ∧ lo = false) := by
  have hgl : g < st.length := by rw [h.i.len]; exact hg
  have c1 := cnt_set (v := 0) hgl 1
  have c2 := cnt_set (v := 0) hgl 2
  have c3 := cnt_set (v := 0) hgl 3
  have c4 := cnt_set (v := 0) hgl 4
  have k2 := h.i.c2; have k4 := h.i.c4; have kl := h.i.ql
  have l2 : sn st g = 2 → lo = true := fun e => by
    rw [e] at c2
    cases lo with
    | true => rfl
    | false => simp at c2 k2; omega
  have l4 : sn st g = 4 → 0 < rd ∧ lo = false := fun e => by
    rw [e] at c4
    have h1 : 0 < rd := by simp at c4; omega
    refine ⟨h1, ?_⟩
    cases lo with
    | false => rfl
    | true => have := h.i.ex rfl; omega
  have hn : sn st g ≠ 1 ∧ sn st g ≠ 3 := by rcases hv with ⟨e, _⟩ | ⟨e, _⟩ <;> rw [e] <;> decide
  refine ⟨⟨by rw [List.length_set]; exact h.i.len, fun k hk => ?_, fun y hy => ?_, fun k hk hw => ?_, h.i.nd, ?_, ?_, ?_, ?_⟩, l2, l4⟩
  · rw [sn_set hgl]
    by_cases e : g = k
    · rw [if_pos e]; exact .inl rfl
    · rw [if_neg e]; exact h.i.val k hk
  · obtain ⟨k, a1, a2, a3⟩ := h.i.q1 y hy
    refine ⟨k, a1, a2, ?_⟩
    rw [sn_set hgl, if_neg (fun e => by rw [← e] at a3; unfold wt at a3; cases hb : y.f1 <;> simp [hb] at a3; exact hn.1 a3; exact hn.2 a3)]
    exact a3
  · rw [sn_set hgl] at hw
    by_cases e : g = k
    · rw [if_pos e] at hw; simp at hw
    · rw [if_neg e] at hw; exact h.i.q2 k hk hw
  · rcases hv with ⟨e, rfl, rfl⟩ | ⟨e, rfl, rfl⟩
    · have := l2 e
      subst this
      rw [e] at c2; simp at c2 k2 ⊢; omega
    · rw [e] at c2; simp at c2 ⊢; omega
  · rcases hv with ⟨e, rfl, rfl⟩ | ⟨e, rfl, rfl⟩
    · rw [e] at c4; simp at c4 ⊢; omega
    · rw [e] at c4; simp at c4 ⊢; omega
  · rcases hv with ⟨e, rfl, rfl⟩ | ⟨e, rfl, rfl⟩
    · intro q; cases q
    · intro q; rw [(l4 e).2] at q; cases q
  · have n1 := hn.1
    have n3 := hn.2
    rw [if_neg n1, if_neg (by decide)] at c1
    rw [if_neg n3, if_neg (by decide)] at c3
    omega
/-- What the law asks behind each turn. -/
theorem Inv.fine {st : List Int} {lo : Bool} {rd : Int} {q : List S83} (h : Inv st lo rd q) : st.count 2 ≤ 1 ∧ (st.count 2 = 1 → st.count 4 = 0) ∧ (st.count 2 + st.count 4 = 0 → st.count 1 + st.count 3 = 0) := by
  have k2 := h.i.c2; have k4 := h.i.c4; have kl := h.i.ql
  cases lo with
  | true =>
    have := h.i.ex rfl
    simp at k2
    exact ⟨by omega, fun _ => by omega, fun q => by omega⟩
  | false =>
    simp at k2
    refine ⟨by omega, fun q => by omega, fun e => ?_⟩
    cases q with
    | nil => rw [← kl]; rfl
    | cons x r =>
      have hg := h.g
      have : rd = 0 := by omega
      subst this
      have h2 : goesB (x :: r) false 0 = true := by show (!false && (x.f1 || (0 : Int) == 0)) = true; simp
      rw [h2] at hg
      cases hg
theorem Inv.start : Inv [0, 0, 0, 0, 0, 0, 0, 0] false 0 [] := ⟨⟨rfl, fun g hg => by rcases g with _ | _ | _ | _ | _ | _ | _ | _ | g <;> first | exact .inl rfl | omega, fun x hx => (by cases hx), fun g hg h => by exfalso; rcases g with _ | _ | _ | _ | _ | _ | _ | _ | g <;> first | (simp at h; done) | omega, .nil, by decide, by decide, fun _ => rfl, by decide⟩, rfl⟩
end Go.Proofs.YtielcanihooagaaDoor.PSemaExcludes

/- Plain: what can be come to, by a list that grows and by sweeps over a row of truths; rising lists. Conditions: none.
   What can be come to within a function, of the program, plain. Conditions: the program may be. -/
import Derived.Test.YtdlikjfffdpmiaaWAll
import Derived.Test.YtdlikjfffdpmiaaProperSo
import Derived.Test.YtdlikjfffdpmiaaProperK1
import Derived.Test.YtdlikjfffdpmiaaQProperx39
import Derived.Test.YtdlikjfffdpmiaaQProperx35
set_option linter.unusedVariables false
set_option linter.unusedSimpArgs false
namespace Go.Proofs.Ytdlikjfffdpmiaa.GProper
open Go.Proofs.Ytdlikjfffdpmiaa.QProper Go.Proofs.YtdlikjfffdpmiaaW.PrintWords
/-- What can be come to from s. -/
inductive Rch (nx : Int → List Int) (s : Int) : Int → Prop
  | base : Rch nx s s
  | step {x y : Int} : Rch nx s x → y ∈ nx x → Rch nx s y
def add1 (l : List Int) (n : Int) : List Int := if l.contains n then l else l ++ [n]
def addAll (l t : List Int) : List Int := t.foldl add1 l
theorem addAll_mem : ∀ (t l : List Int) (x : Int), x ∈ addAll l t ↔ x ∈ l ∨ x ∈ t := by
  intro t
  induction t with
  | nil => intro l x; simp [addAll]
  | cons n t ih =>
    intro l x
    show x ∈ addAll (add1 l n) t ↔ _
    rw [ih]
    unfold add1
    by_cases h : l.contains n = true
    · rw [if_pos h]
      have hm : n ∈ l := by simpa using h
      constructor
      · rintro (h1 | h1)
        · exact .inl h1
        · exact .inr (List.mem_cons_of_mem _ h1)
      · rintro (h1 | h1)
        · exact .inl h1
        · rcases List.mem_cons.1 h1 with rfl | h1
          · exact .inl hm
          · exact .inr h1
    · rw [if_neg h, List.mem_append, List.mem_singleton, List.mem_cons]
      constructor
      · rintro ((h1 | h1) | h1)
        · exact .inl h1
        · exact .inr (.inl h1)
        · exact .inr (.inr h1)
      · rintro (h1 | h1 | h1)
        · exact .inl (.inl h1)
        · exact .inl (.inr h1)
        · exact .inr h1
theorem add1_nodup {l : List Int} (h : l.Nodup) (n : Int) : (add1 l n).Nodup := by
  unfold add1
  by_cases hc : l.contains n = true
  · rw [if_pos hc]; exact h
  · rw [if_neg hc]
    have hm : n ∉ l := by simpa using hc
    rw [List.nodup_append]
    exact ⟨h, by simp, fun a ha b hb => by rw [List.mem_singleton.1 hb]; rintro rfl; exact hm ha⟩
theorem addAll_nodup : ∀ (t l : List Int), l.Nodup → (addAll l t).Nodup := by
  intro t
  induction t with
  | nil => intro l h; exact h
  | cons n t ih => intro l h; exact ih _ (add1_nodup h n)
theorem addAll_pre : ∀ (t l : List Int), ∃ r, addAll l t = l ++ r := by
  intro t
  induction t with
  | nil => intro l; exact ⟨[], by simp [addAll]⟩
  | cons n t ih =>
    intro l
    obtain ⟨r, hr⟩ := ih (add1 l n)
    show ∃ r, addAll (add1 l n) t = _
    rw [hr]
    unfold add1
    by_cases hc : l.contains n = true
    · rw [if_pos hc]; exact ⟨r, rfl⟩
    · rw [if_neg hc]; exact ⟨n :: r, by simp⟩
theorem nodup_len : ∀ (N : Nat) (b : Int) (l : List Int), l.Nodup → (∀ x ∈ l, b ≤ x ∧ x < b + N) → l.length ≤ N := by
  intro N
  induction N with
  | zero =>
    intro b l _ h
    cases l with
    | nil => simp
    | cons x l => have := h x List.mem_cons_self; omega
  | succ N ih =>
    intro b l hn h
    by_cases hm : (b + N) ∈ l
    · have h1 := List.length_erase_of_mem hm
      have h2 := ih b (l.erase (b + N)) (hn.erase _) (fun x hx => by
        obtain ⟨h3, h4⟩ := (hn.mem_erase_iff).1 hx
        have := h x h4
        omega)
      have : 0 < l.length := List.length_pos_of_mem hm
      omega
    · have := ih b l hn (fun x hx => by
        have h3 := h x hx
        have : x ≠ b + N := fun e => hm (e ▸ hx)
        omega)
      omega
/-- The list grows by what each of its places leads to. -/
def bfs (nx : Int → List Int) : Nat → List Int → Nat → Option (List Int)
  | 0, _, _ => none
  | m + 1, l, i => if i < l.length then bfs nx m (addAll l (nx (l.getD i 0))) (i + 1) else some l
theorem bfs_ok (nx : Int → List Int) (s b : Int) (N : Nat) (hnx : ∀ x, b ≤ x → x < b + N → ∀ y ∈ nx x, b ≤ y ∧ y < b + N) :
    ∀ (m : Nat) (l : List Int) (i : Nat), N + 1 ≤ m + i → l.Nodup → (∀ x ∈ l, b ≤ x ∧ x < b + N) → s ∈ l → (∀ x ∈ l, Rch nx s x) → i ≤ l.length → (∀ j, j < i → ∀ y ∈ nx (l.getD j 0), y ∈ l) →
      ∃ r, bfs nx m l i = some r ∧ r.Nodup ∧ (∀ x ∈ r, b ≤ x ∧ x < b + N) ∧ ∀ x, x ∈ r ↔ Rch nx s x := by
  intro m
  induction m with
  | zero =>
    intro l i hm hn hr hs hR hi hcl
    have := nodup_len N b l hn hr
    omega
  | succ m ih =>
    intro l i hm hn hr hs hR hi hcl
    unfold bfs
    by_cases h : i < l.length
    · rw [if_pos h]
      have hx : l.getD i 0 ∈ l := by
        rw [List.getD_eq_getElem?_getD, List.getElem?_eq_getElem h]; exact List.getElem_mem _
      obtain ⟨q, hq⟩ := addAll_pre (nx (l.getD i 0)) l
      refine ih _ (i + 1) (by omega) (addAll_nodup _ _ hn) (fun x hx' => ?_) ((addAll_mem _ _ _).2 (.inl hs)) (fun x hx' => ?_) (by rw [hq, List.length_append]; omega) (fun j hj y hy => ?_)
      · rcases (addAll_mem _ _ _).1 hx' with h1 | h1
        · exact hr x h1
        · have := hr _ hx; exact hnx _ this.1 this.2 x h1
      · rcases (addAll_mem _ _ _).1 hx' with h1 | h1
        · exact hR x h1
        · exact (hR _ hx).step h1
      · have hjl : j < l.length := by omega
        have e : (addAll l (nx (l.getD i 0))).getD j 0 = l.getD j 0 := by
          rw [hq, List.getD_eq_getElem?_getD, List.getElem?_append_left hjl, ← List.getD_eq_getElem?_getD]
        rw [e] at hy
        by_cases hji : j = i
        · subst hji; exact (addAll_mem _ _ _).2 (.inr hy)
        · exact (addAll_mem _ _ _).2 (.inl (hcl j (by omega) y hy))
    · rw [if_neg h]
      refine ⟨l, rfl, hn, hr, fun x => ⟨hR x, fun hx => ?_⟩⟩
      induction hx with
      | base => exact hs
      | step hx hy ihx =>
        obtain ⟨j, hj, e⟩ := List.getElem_of_mem ihx
        refine hcl j (by omega) _ ?_
        rw [List.getD_eq_getElem?_getD, List.getElem?_eq_getElem hj, e]
        exact hy
/-! ### rising lists -/
theorem inc_unique : ∀ (l m : List Int), l.Pairwise (· < ·) → m.Pairwise (· < ·) → (∀ x, x ∈ l ↔ x ∈ m) → l = m := by
  intro l
  induction l with
  | nil =>
    intro m _ _ h
    cases m with
    | nil => rfl
    | cons b m => have := (h b).2 List.mem_cons_self; cases this
  | cons a l ih =>
    intro m hl hm h
    cases m with
    | nil => have := (h a).1 List.mem_cons_self; cases this
    | cons b m =>
      rw [List.pairwise_cons] at hl hm
      have hab : a = b := by
        rcases List.mem_cons.1 ((h a).1 List.mem_cons_self) with h1 | h1
        · exact h1
        · rcases List.mem_cons.1 ((h b).2 List.mem_cons_self) with h2 | h2
          · exact h2.symm
          · have := hm.1 a h1; have := hl.1 b h2; omega
      subst hab
      rw [ih m hl.2 hm.2 (fun x => ?_)]
      constructor
      · intro hx
        rcases List.mem_cons.1 ((h x).1 (List.mem_cons_of_mem _ hx)) with h1 | h1
        · have := hl.1 x hx; omega
        · exact h1
      · intro hx
        rcases List.mem_cons.1 ((h x).2 (List.mem_cons_of_mem _ hx)) with h1 | h1
        · have := hm.1 x hx; omega
        · exact h1
theorem sorted_mem (l : List Int) (x : Int) : x ∈ sorted l ↔ x ∈ l := (List.mergeSort_perm l _).mem_iff
theorem sorted_inc {l : List Int} (h : l.Nodup) : (sorted l).Pairwise (· < ·) := by
  have h1 : (sorted l).Nodup := ((List.mergeSort_perm l _).nodup_iff).2 h
  have h2 := List.pairwise_mergeSort (le := fun x y : Int => decide (x ≤ y)) (by intro a b c; simp; omega) (by intro a b; simp; omega) l
  have h3 := List.Pairwise.and h2 h1
  exact h3.imp (by intro a b hh; have h4 : a ≤ b := by simpa using hh.1
                   have h5 : a ≠ b := hh.2
                   omega)
/-- The places that are true. -/
def risingL : List Bool → Int → List Int
  | [], _ => []
  | b :: r, o => if b = true then o :: risingL r (o + 1) else risingL r (o + 1)
theorem risingL_ge : ∀ (l : List Bool) (o x : Int), x ∈ risingL l o → o ≤ x ∧ x < o + l.length ∧ l.getD (x - o).toNat false = true := by
  intro l
  induction l with
  | nil => intro o x h; cases h
  | cons b r ih =>
    intro o x h
    have key : x ∈ risingL r (o + 1) → o ≤ x ∧ x < o + (b :: r).length ∧ (b :: r).getD (x - o).toNat false = true := by
      intro h
      obtain ⟨h1, h2, h3⟩ := ih _ _ h
      have e : (x - o).toNat = (x - (o + 1)).toNat + 1 := by omega
      refine ⟨by omega, by rw [List.length_cons]; omega, ?_⟩
      rw [e, List.getD_cons_succ]; exact h3
    unfold risingL at h
    by_cases hb : b = true
    · rw [if_pos hb] at h
      rcases List.mem_cons.1 h with rfl | h
      · exact ⟨by omega, by rw [List.length_cons]; omega, by simp [hb]⟩
      · exact key h
    · rw [if_neg hb] at h; exact key h
theorem risingL_has : ∀ (l : List Bool) (o x : Int), o ≤ x → x < o + l.length → l.getD (x - o).toNat false = true → x ∈ risingL l o := by
  intro l
  induction l with
  | nil => intro o x h0 h1 h; simp at h1; omega
  | cons b r ih =>
    intro o x h0 h1 h
    unfold risingL
    by_cases e : x = o
    · subst e
      have hb : b = true := by simpa using h
      rw [if_pos hb]; exact List.mem_cons_self
    · have e2 : (x - o).toNat = (x - (o + 1)).toNat + 1 := by omega
      rw [e2, List.getD_cons_succ] at h
      rw [List.length_cons] at h1
      have := ih (o + 1) x (by omega) (by omega) h
      by_cases hb : b = true
      · rw [if_pos hb]; exact List.mem_cons_of_mem _ this
      · rw [if_neg hb]; exact this
theorem risingL_inc : ∀ (l : List Bool) (o : Int), (risingL l o).Pairwise (· < ·) := by
  intro l
  induction l with
  | nil => intro o; exact List.Pairwise.nil
  | cons b r ih =>
    intro o
    unfold risingL
    by_cases hb : b = true
    · rw [if_pos hb, List.pairwise_cons]
      exact ⟨fun x hx => by have := risingL_ge _ _ _ hx; omega, ih _⟩
    · rw [if_neg hb]; exact ih _
theorem risingL_mem (l : List Bool) (x : Int) : x ∈ risingL l 0 ↔ 0 ≤ x ∧ x < l.length ∧ l.getD x.toNat false = true := by
  constructor
  · intro h
    have := risingL_ge l 0 x h
    simpa using this
  · rintro ⟨h0, h1, h2⟩
    exact risingL_has l 0 x h0 (by omega) (by simpa using h2)
/-! ### sweeps over a row of truths -/
def at_ (c : List Bool) (x : Int) : Bool := c.getD x.toNat false
def markL : List Int → List Bool × Bool → List Bool × Bool
  | [], q => q
  | n :: t, q => markL t (q.1.set n.toNat true, q.2 || !at_ q.1 n)
def sweep (nx : Int → List Int) : Nat → Int → List Bool × Bool → List Bool × Bool
  | 0, _, q => q
  | m + 1, a, q => sweep nx m (a + 1) (if at_ q.1 a = true then markL (nx a) q else q)
/-- How many are false. -/
def left (c : List Bool) : Nat := c.countP (fun b => !b)
theorem at_set (c : List Bool) (n x : Int) (h0 : 0 ≤ n) (h1 : n < c.length) (hx : 0 ≤ x) : at_ (c.set n.toNat true) x = (at_ c x || decide (x = n)) := by
  unfold at_
  rw [List.getD_eq_getElem?_getD, List.getD_eq_getElem?_getD, List.getElem?_set]
  by_cases e : x = n
  · subst e
    rw [if_pos rfl, if_pos (by omega)]; simp
  · rw [if_neg (by omega)]; simp [e]
theorem left_set (c : List Bool) (n : Int) (h0 : 0 ≤ n) (h1 : n < c.length) : left (c.set n.toNat true) = left c - (if at_ c n = true then 0 else 1) := by
  unfold left at_
  have hl : n.toNat < c.length := by omega
  rw [List.countP_set hl, List.getD_eq_getElem?_getD, List.getElem?_eq_getElem hl]
  cases c[n.toNat] <;> simp
theorem left_pos (c : List Bool) (n : Int) (h0 : 0 ≤ n) (h1 : n < c.length) (h : at_ c n = false) : 0 < left c := by
  unfold left at_ at *
  have hl : n.toNat < c.length := by omega
  rw [List.getD_eq_getElem?_getD, List.getElem?_eq_getElem hl] at h
  rw [List.countP_pos_iff]
  exact ⟨_, List.getElem_mem hl, by simpa using h⟩
/-- What a step of marking leaves: no truth is lost, what is new is told, and 'moved' tells whether something is new. -/
structure Marked (t : Int → Prop) (q r : List Bool × Bool) : Prop where
  len : r.1.length = q.1.length
  mem : ∀ x : Int, 0 ≤ x → (at_ r.1 x = true → at_ q.1 x = true ∨ t x)
  old : ∀ x : Int, 0 ≤ x → at_ q.1 x = true → at_ r.1 x = true
  still : r.2 = false → q.2 = false ∧ r.1 = q.1
  less : left r.1 ≤ left q.1
  moved : r.2 = true → q.2 = true ∨ left r.1 < left q.1
theorem Marked.refl (t : Int → Prop) (q : List Bool × Bool) : Marked t q q := ⟨rfl, fun _ _ h => .inl h, fun _ _ h => h, fun h => ⟨h, rfl⟩, Nat.le_refl _, fun h => .inl h⟩
theorem Marked.trans {t u v : Int → Prop} {p q r : List Bool × Bool} (h : Marked t p q) (k : Marked u q r) (ht : ∀ x, t x → v x) (hu : ∀ x, u x → v x) : Marked v p r :=
  ⟨k.len.trans h.len, fun x h0 hx => (k.mem x h0 hx).elim (fun h1 => (h.mem x h0 h1).imp id (ht x)) (fun h1 => .inr (hu x h1)), fun x h0 hx => k.old x h0 (h.old x h0 hx),
    fun hs => ⟨(h.still (k.still hs).1).1, (k.still hs).2.trans (h.still (k.still hs).1).2⟩, Nat.le_trans k.less h.less,
    fun hm => (k.moved hm).elim (fun h1 => (h.moved h1).imp id (fun h2 => Nat.lt_of_le_of_lt k.less h2)) (fun h1 => .inr (Nat.lt_of_lt_of_le h1 h.less))⟩
theorem set_same (c : List Bool) (n : Int) (h0 : 0 ≤ n) (h1 : n < c.length) (h : at_ c n = true) : c.set n.toNat true = c := by
  unfold at_ at h
  have hl : n.toNat < c.length := by omega
  rw [List.getD_eq_getElem?_getD, List.getElem?_eq_getElem hl] at h
  apply List.ext_getElem?
  intro i
  rw [List.getElem?_set]
  by_cases e : n.toNat = i
  · subst e; rw [if_pos rfl, if_pos hl, List.getElem?_eq_getElem hl]; simpa using h.symm
  · rw [if_neg e]
theorem mark_ok : ∀ (t : List Int) (q : List Bool × Bool), (∀ y ∈ t, 0 ≤ y ∧ y < q.1.length) → Marked (· ∈ t) q (markL t q) ∧ ∀ y ∈ t, at_ (markL t q).1 y = true := by
  intro t
  induction t with
  | nil => intro q _; exact ⟨Marked.refl _ _, fun y hy => by cases hy⟩
  | cons n t ih =>
    intro q h
    obtain ⟨h0, h1⟩ := h n List.mem_cons_self
    have one : Marked (· = n) q (q.1.set n.toNat true, q.2 || !at_ q.1 n) := by
      refine ⟨by simp, fun x hx hr => ?_, fun x hx hr => ?_, fun hs => ?_, ?_, fun hm => ?_⟩
      · rw [at_set _ _ _ h0 h1 hx] at hr; simpa using hr
      · rw [at_set _ _ _ h0 h1 hx, hr]; rfl
      · have hs' : q.2 = false ∧ at_ q.1 n = true := by simpa using hs
        exact ⟨hs'.1, set_same _ _ h0 h1 hs'.2⟩
      · show left (q.1.set n.toNat true) ≤ _
        rw [left_set _ _ h0 h1]; exact Nat.sub_le _ _
      · have hm' : q.2 = true ∨ at_ q.1 n = false := by simpa using hm
        rcases hm' with h2 | h2
        · exact .inl h2
        · refine .inr ?_
          show left (q.1.set n.toNat true) < _
          have := left_pos _ _ h0 h1 h2
          rw [left_set _ _ h0 h1, h2]; simp; omega
    obtain ⟨hM, hA⟩ := ih (q.1.set n.toNat true, q.2 || !at_ q.1 n) (fun y hy => by have := h y (List.mem_cons_of_mem _ hy); simpa using this)
    refine ⟨one.trans hM (fun x hx => by rw [hx]; exact List.mem_cons_self) (fun x hx => List.mem_cons_of_mem _ hx), fun y hy => ?_⟩
    rcases List.mem_cons.1 hy with rfl | hy
    · exact hM.old y h0 (by show at_ (q.1.set y.toNat true) y = true; rw [at_set _ _ _ h0 h1 h0]; simp)
    · exact hA y hy
theorem sweep_ok (nx : Int → List Int) (b : Int) (N : Nat) (hb : 0 ≤ b) (hnx : ∀ x, b ≤ x → x < b + N → ∀ y ∈ nx x, b ≤ y ∧ y < b + N) :
    ∀ (m : Nat) (a : Int) (q : List Bool × Bool), b ≤ a → a + m ≤ b + N → b + N ≤ q.1.length →
      Marked (fun y => ∃ x, b ≤ x ∧ x < b + N ∧ y ∈ nx x ∧ at_ (sweep nx m a q).1 x = true) q (sweep nx m a q) ∧ ((sweep nx m a q).2 = false → ∀ x, a ≤ x → x < a + m → at_ q.1 x = true → ∀ y ∈ nx x, at_ q.1 y = true) := by
  intro m
  induction m with
  | zero => intro a q _ _ _; exact ⟨Marked.refl _ _, fun _ x h0 h1 => by omega⟩
  | succ m ih =>
    intro a q ha hm hq
    unfold sweep
    by_cases h : at_ q.1 a = true
    · rw [if_pos h]
      obtain ⟨hM, hA⟩ := mark_ok (nx a) q (fun y hy => by have := hnx a ha (by omega) y hy; omega)
      obtain ⟨hS, hC⟩ := ih (a + 1) (markL (nx a) q) (by omega) (by omega) (by rw [hM.len]; exact hq)
      have hall := hM.trans hS (v := fun y => ∃ x, b ≤ x ∧ x < b + N ∧ y ∈ nx x ∧ at_ (sweep nx m (a + 1) (markL (nx a) q)).1 x = true) (fun y hy => ⟨a, ha, by omega, hy, hS.old a (by omega) (hM.old a (by omega) h)⟩) (fun y hy => hy)
      refine ⟨hall, fun hs x h0 h1 hx y hy => ?_⟩
      have hq2 := (hS.still hs)
      have e1 := (hM.still hq2.1).2
      by_cases e : x = a
      · subst e
        have := hA y hy
        rw [e1] at this; exact this
      · have := hC hs x (by omega) (by omega) (by rw [e1]; exact hx) y hy
        rw [e1] at this; exact this
    · rw [if_neg h]
      obtain ⟨hS, hC⟩ := ih (a + 1) q (by omega) (by omega) hq
      refine ⟨hS, fun hs x h0 h1 hx y hy => ?_⟩
      by_cases e : x = a
      · subst e; exact absurd hx h
      · exact hC hs x (by omega) (by omega) hx y hy
theorem sweep_sound (nx : Int → List Int) (b : Int) (N : Nat) (hb : 0 ≤ b) (hnx : ∀ x, b ≤ x → x < b + N → ∀ y ∈ nx x, b ≤ y ∧ y < b + N) (s : Int) :
    ∀ (m : Nat) (a : Int) (q : List Bool × Bool), b ≤ a → a + m ≤ b + N → b + N ≤ q.1.length → (∀ x : Int, 0 ≤ x → at_ q.1 x = true → Rch nx s x) → ∀ x : Int, 0 ≤ x → at_ (sweep nx m a q).1 x = true → Rch nx s x := by
  intro m
  induction m with
  | zero => intro a q _ _ _ h; exact h
  | succ m ih =>
    intro a q ha hm hq hR
    unfold sweep
    by_cases h : at_ q.1 a = true
    · rw [if_pos h]
      obtain ⟨hM, hA⟩ := mark_ok (nx a) q (fun y hy => by have := hnx a ha (by omega) y hy; omega)
      refine ih (a + 1) (markL (nx a) q) (by omega) (by omega) (by rw [hM.len]; exact hq) (fun x h0 hx => ?_)
      rcases hM.mem x h0 hx with h1 | h1
      · exact hR x h0 h1
      · exact (hR a (by omega) h).step h1
    · rw [if_neg h]
      exact ih (a + 1) q (by omega) (by omega) hq hR
/-- Sweeps till nothing moves. -/
def sweeps (nx : Int → List Int) (b : Int) (N : Nat) : Nat → List Bool → Option (List Bool)
  | 0, _ => none
  | m + 1, c => if (sweep nx N b (c, false)).2 = true then sweeps nx b N m (sweep nx N b (c, false)).1 else some (sweep nx N b (c, false)).1
theorem sweeps_ok (nx : Int → List Int) (s b : Int) (N : Nat) (hb : 0 ≤ b) (hs : b ≤ s ∧ s < b + N) (hnx : ∀ x, b ≤ x → x < b + N → ∀ y ∈ nx x, b ≤ y ∧ y < b + N) :
    ∀ (m : Nat) (c : List Bool), left c < m → b + N ≤ c.length → at_ c s = true → (∀ x : Int, 0 ≤ x → at_ c x = true → Rch nx s x) →
      ∃ r, sweeps nx b N m c = some r ∧ r.length = c.length ∧ ∀ x : Int, 0 ≤ x → (at_ r x = true ↔ Rch nx s x) := by
  intro m
  induction m with
  | zero => intro c h; omega
  | succ m ih =>
    intro c hl hc hsc hR
    obtain ⟨hS, hC⟩ := sweep_ok nx b N hb hnx N b (c, false) (Int.le_refl _) (Int.le_refl _) hc
    have hin : ∀ x, Rch nx s x → b ≤ x ∧ x < b + N := by
      intro x hx
      induction hx with
      | base => exact hs
      | step hx hy ihx => exact hnx _ ihx.1 ihx.2 _ hy
    unfold sweeps
    have hR' : ∀ x : Int, 0 ≤ x → at_ (sweep nx N b (c, false)).1 x = true → Rch nx s x := by
      have key := sweep_sound nx b N hb hnx s N b (c, false) (Int.le_refl _) (Int.le_refl _) hc hR
      exact key
    by_cases h : (sweep nx N b (c, false)).2 = true
    · rw [if_pos h]
      have hlt : left (sweep nx N b (c, false)).1 < left c := (hS.moved h).elim (fun h1 => by cases h1) id
      obtain ⟨r, h1, h2, h3⟩ := ih _ (by omega) (by rw [hS.len]; exact hc) (hS.old s (by omega) hsc) hR'
      exact ⟨r, h1, h2.trans hS.len, h3⟩
    · rw [if_neg h]
      have h' : (sweep nx N b (c, false)).2 = false := by simpa using h
      have e : (sweep nx N b (c, false)).1 = c := (hS.still h').2
      rw [e]
      refine ⟨c, rfl, rfl, fun x h0 => ⟨hR x h0, fun hx => ?_⟩⟩
      clear h0
      induction hx with
      | base => exact hsc
      | step hx hy ihx =>
        have := hin _ hx
        exact hC h' _ this.1 this.2 ihx _ hy
end Go.Proofs.Ytdlikjfffdpmiaa.GProper
set_option linter.unusedVariables false
set_option linter.unusedSimpArgs false
namespace Go.Proofs.Ytdlikjfffdpmiaa.CProper
open Go.RowKit Go.Proofs.Ytdlikjfffdpmiaa.QProper Go.Proofs.Ytdlikjfffdpmiaa.GProper Go.Proofs.YtdlikjfffdpmiaaW.PrintWords Go.Proofs.YtdlikjfffdpmiaaW.PrintLast Go.Proofs.YtdlikjfffdpmiaaW.PrintMore
theorem rd_in {l : List Int} {j : Nat} (h : j < l.length) : rd l (j : Int) = l.getD j 0 := by simp [rd]
theorem index_l0 (l : List Int) (x : Int) (hl : (l.length : Int) < 9223372036854775807) : ∀ (d j k : Nat), l.length - j = d → d < k →
    slices_Index_int_int.l0 k l x l.length (j : Int) = some (match (l.drop j).findIdx? (fun y => x == y) with | some i => (j : Int) + i | none => -1) := by
  intro d
  induction d with
  | zero =>
    intro j k hd hk
    obtain ⟨k, rfl⟩ : ∃ m, k = m + 1 := ⟨k - 1, by omega⟩
    simp only [slices_Index_int_int.l0]
    rw [if_neg (by omega), List.drop_eq_nil_of_le (by omega)]
    rfl
  | succ d ih =>
    intro j k hd hk
    obtain ⟨k, rfl⟩ : ∃ m, k = m + 1 := ⟨k - 1, by omega⟩
    have hj : j < l.length := by omega
    have ih' := ih (j + 1) k (by omega) (by omega)
    simp only [slices_Index_int_int.l0]
    have hw : wrap64 ((j : Int) + 1) = ((j + 1 : Nat) : Int) := wrap1 (by omega)
    rw [if_pos (by omega), if_pos (by omega), if_pos (by omega), hw, ih', List.drop_eq_getElem_cons hj, List.findIdx?_cons, rd_in hj, List.getD_eq_getElem?_getD, List.getElem?_eq_getElem hj, Option.getD_some]
    by_cases e : x = l[j]
    · rw [if_pos e, e]; simp
    · have : (x == l[j]) = false := by simpa using e
      rw [if_neg e, this]
      cases List.findIdx? (fun y => x == y) (l.drop (j + 1)) with
      | none => simp
      | some i =>
        have e : ∀ a b : Int, a + 1 + b = a + (b + 1) := fun a b => by omega
        simpa using e j i
theorem contains_ok (l : List Int) (x : Int) (hl : (l.length : Int) < 9223372036854775807) (k : Nat) (hk : l.length < k) : slices_Contains_int_int.f k l x = some (l.contains x) := by
  unfold slices_Contains_int_int.f slices_Index_int_int.f
  have h0 := index_l0 l x hl l.length 0 k (by omega) (by omega)
  rw [show ((0 : Nat) : Int) = 0 from rfl] at h0
  rw [h0]
  simp only [Option.bind_some, List.drop_zero]
  congr 1
  cases h : l.findIdx? (fun y => x == y) with
  | none =>
    rw [List.findIdx?_eq_none_iff] at h
    have : l.contains x = false := by
      rw [List.contains_eq_mem, decide_eq_false_iff_not]
      intro hm
      have := h x hm
      simp at this
    rw [this]; decide
  | some i =>
    have h' := h
    rw [List.findIdx?_eq_some_iff_getElem] at h'
    obtain ⟨hi, he, _⟩ := h'
    have : l.contains x = true := by
      rw [List.contains_eq_mem, decide_eq_true_eq]
      have e : x = l[i] := by simpa using he
      rw [e]; exact List.getElem_mem _
    rw [this]
    simp
def nx (c : List Int) (i : Int) : List Int := nexts (rd c i) i
/-- A word leads nowhere but within its function. -/
theorem nx_in {c : List Int} {fs : List S34} {ts : List S58} (F : Fine c fs ts) {j : Nat} {f : S34} (hj : fs[j]? = some f) : ∀ x, f.f0 ≤ x → x < f.f1 → ∀ y ∈ nx c x, f.f0 ≤ y ∧ y < f.f1 := by
  intro x h0 h1 y hy
  obtain ⟨w0, w1, w2, w3, w4⟩ := W_zero (F.word j f x hj h0 h1)
  unfold nx nexts at hy
  by_cases h17 : (dec (rd c x)).1 = 17
  · rw [if_pos h17, List.mem_singleton] at hy
    rw [hy]; exact w1 (by rw [h17]; decide)
  rw [if_neg h17] at hy
  cases he : endo (dec (rd c x)).1 with
  | true => rw [he, if_pos rfl] at hy; cases hy
  | false =>
    rw [he, if_neg (by decide)] at hy
    have hl : x + 1 < f.f1 := by
      have : x ≠ f.f1 - 1 := fun e => by rw [w4 e] at he; cases he
      omega
    have hs : f.f0 ≤ x + 1 ∧ x + 1 < f.f1 := ⟨by omega, hl⟩
    by_cases h2 : jmp (dec (rd c x)).1 = false ∨ (dec (rd c x)).2.2.2.2.1 = x + 1
    · rw [if_pos h2, List.mem_singleton] at hy
      rw [hy]; exact hs
    · rw [if_neg h2] at hy
      have hj2 : jmp (dec (rd c x)).1 = true := by
        cases hh : jmp (dec (rd c x)).1 with
        | true => rfl
        | false => exact absurd (.inl hh) h2
      have hi := w1 hj2
      by_cases h3 : (dec (rd c x)).2.2.2.2.1 < x + 1
      · rw [if_pos h3] at hy
        rcases List.mem_cons.1 hy with e | hy
        · rw [e]; exact hi
        · rw [List.mem_singleton.1 hy]; exact hs
      · rw [if_neg h3] at hy
        rcases List.mem_cons.1 hy with e | hy
        · rw [e]; exact hs
        · rw [List.mem_singleton.1 hy]; exact hi
theorem fn_at {fs : List S34} {f : Int} (h0 : 0 ≤ f) (h1 : f < fs.length) : fs[f.toNat]? = some (rd_T34 fs f) := by
  unfold rd_T34
  rw [List.getD_eq_getElem?_getD, List.getElem?_eq_getElem (show f.toNat < fs.length by omega)]
  rfl
theorem reach_l1 (c : List Int) (fs : List S34) (ts : List S58) (i : Nat) (hi : (i : Int) < 9000000000) (t : List Int) (ht : t.length ≤ 2) : ∀ (d j : Nat) (l : List Int) (k : Nat), t.length - j = d → l.length + d ≤ 10000 → 10100 ≤ k →
    proper_reach.l1 (k + d + 1) l (i : Int) t t.length (j : Int) c fs ts = proper_reach.l0 k (addAll l (t.drop j)) ((i + 1 : Nat) : Int) c fs ts := by
  intro d
  induction d with
  | zero =>
    intro j l k hd hl hk
    rw [Nat.add_zero]
    simp only [proper_reach.l1]
    rw [if_neg (by omega), List.drop_eq_nil_of_le (by omega), wrap1 (by omega)]
    rfl
  | succ d ih =>
    intro j l k hd hl hk
    have hj : j < t.length := by omega
    show proper_reach.l1 (k + d + 1 + 1) l (i : Int) t t.length (j : Int) c fs ts = _
    simp only [proper_reach.l1]
    rw [if_pos (by omega), if_pos (by omega), if_pos (by omega), contains_ok l _ (by omega) _ (by omega)]
    simp only [Option.bind_some]
    have hw : wrap64 ((j : Int) + 1) = ((j + 1 : Nat) : Int) := wrap1 (by omega)
    have hdr : t.drop j = rd t (j : Int) :: t.drop (j + 1) := by
      rw [List.drop_eq_getElem_cons hj, rd_in hj, List.getD_eq_getElem?_getD, List.getElem?_eq_getElem hj]; rfl
    have ea : addAll l (t.drop j) = addAll (add1 l (rd t (j : Int))) (t.drop (j + 1)) := by rw [hdr]; rfl
    rw [ea, hw]
    unfold add1
    by_cases h : l.contains (rd t (j : Int)) = true
    · rw [if_pos h, if_pos h]
      exact ih (j + 1) l k (by omega) (by omega) hk
    · rw [if_neg h, if_neg h, if_pos (by omega)]
      exact ih (j + 1) (l ++ [rd t (j : Int)]) k (by omega) (by rw [List.length_append, List.length_singleton]; omega) hk
section
variable {c : List Int} {fs : List S34} {ts : List S58} (hc : ∀ x ∈ c, 0 ≤ x ∧ x < 4294967296) (F : Fine c fs ts)
include hc F
theorem reach_l0 {b : Int} {N : Nat} (hb : 0 ≤ b) (hN : b + N ≤ c.length) (hnx : ∀ x, b ≤ x → x < b + N → ∀ y ∈ nx c x, b ≤ y ∧ y < b + N) :
    ∀ (m : Nat) (l : List Int) (i : Nat) (r : List Int), bfs (nx c) m l i = some r → l.Nodup → (∀ x ∈ l, b ≤ x ∧ x < b + N) → i ≤ l.length → ∀ k, 5 * m + 10200 ≤ k → proper_reach.l0 k l (i : Int) c fs ts = some (sorted r) := by
  intro m
  induction m with
  | zero => intro l i r h; cases h
  | succ m ih =>
    intro l i r h hn hr hi k hk
    have hlen := nodup_len N b l hn hr
    have hnc := F.nc
    obtain ⟨k, rfl⟩ : ∃ q, k = q + 1 := ⟨k - 1, by omega⟩
    unfold bfs at h
    simp only [proper_reach.l0]
    by_cases hil : i < l.length
    · rw [if_pos hil] at h
      have hx : l.getD i 0 ∈ l := by
        rw [List.getD_eq_getElem?_getD, List.getElem?_eq_getElem hil]; exact List.getElem_mem _
      have hxr := hr _ hx
      rw [if_pos (by omega), if_pos (by omega), rd_in hil, next_ok c fs ts hc F.nc _ (by omega) (by omega) k (by omega)]
      simp only [Option.bind_some]
      have ht : (nexts (rd c (l.getD i 0)) (l.getD i 0)).length ≤ 2 := nexts_len _ _
      obtain ⟨k, rfl⟩ : ∃ q, k = q + (nexts (rd c (l.getD i 0)) (l.getD i 0)).length + 1 := ⟨k - (nexts (rd c (l.getD i 0)) (l.getD i 0)).length - 1, by omega⟩
      have h1 := reach_l1 c fs ts i (by omega) (nexts (rd c (l.getD i 0)) (l.getD i 0)) ht _ 0 l k (by rw [Nat.sub_zero]) (by omega) (by omega)
      rw [show ((0 : Nat) : Int) = 0 from rfl, List.drop_zero] at h1
      rw [h1]
      obtain ⟨q, hq⟩ := addAll_pre (nx c (l.getD i 0)) l
      refine ih _ (i + 1) r h (addAll_nodup _ _ hn) (fun x hx' => ?_) ?_ k (by omega)
      · rcases (addAll_mem _ _ _).1 hx' with h2 | h2
        · exact hr x h2
        · exact hnx _ hxr.1 hxr.2 x h2
      · show i + 1 ≤ (addAll l (nx c (l.getD i 0))).length
        rw [hq, List.length_append]; omega
    · rw [if_neg hil] at h
      obtain rfl := Option.some.inj h
      rw [if_neg (by omega)]
      unfold slices_Sort_int.f
      rw [if_pos (by omega)]
      rfl
/-- The program's list of what can be come to: rising, just what can be come to. -/
theorem reach_ok (f : Int) (h0 : 0 ≤ f) (h1 : f < fs.length) : ∃ L : List Int, (∀ k, 40000 ≤ k → proper_reach.f k c fs ts f = some L) ∧ L.Pairwise (· < ·) ∧ (∀ x, x ∈ L ↔ Rch (nx c) (rd_T34 fs f).f0 x) ∧ ∀ x ∈ L, (rd_T34 fs f).f0 ≤ x ∧ x < (rd_T34 fs f).f1 := by
  have hf := fn_at h0 h1
  have hin := nx_in F hf
  have hch := chain_ge _ fs 0 F.chain _ (List.mem_of_getElem? hf)
  have hnc := F.nc
  generalize hg : rd_T34 fs f = g at *
  have hN : ((g.f1 - g.f0).toNat : Int) = g.f1 - g.f0 := by omega
  have hnx : ∀ x, g.f0 ≤ x → x < g.f0 + (g.f1 - g.f0).toNat → ∀ y ∈ nx c x, g.f0 ≤ y ∧ y < g.f0 + (g.f1 - g.f0).toNat := fun x a b y hy => by
    have := hin x a (by omega) y hy; omega
  obtain ⟨r, hr, hn, hrange, hmem⟩ := bfs_ok (nx c) g.f0 g.f0 (g.f1 - g.f0).toNat hnx ((g.f1 - g.f0).toNat + 1) [g.f0] 0 (by omega) (by simp) (fun x hx => by rw [List.mem_singleton] at hx; omega) (by simp) (fun x hx => by rw [List.mem_singleton.1 hx]; exact .base) (by simp) (fun j hj => by omega)
  refine ⟨sorted r, fun k hk => ?_, sorted_inc hn, fun x => (sorted_mem r x).trans (hmem x), fun x hx => by have := hrange x ((sorted_mem r x).1 hx); omega⟩
  unfold proper_reach.f
  rw [if_pos h0, if_pos h1, hg]
  exact reach_l0 hc F (by omega) (by omega) hnx _ [g.f0] 0 r hr (by simp) (fun x hx => by rw [List.mem_singleton] at hx; omega) (by simp) k (by omega)
end
theorem function_ok (c : List Int) (fs : List S34) (ts : List S58) (hc : ∀ x ∈ c, 0 ≤ x ∧ x < 4294967296) (f : Int) (k : Nat) (hk : 20000 ≤ k) :
    proper_function.f k c fs ts f = some (if (checkAll (gW c fs ts) c fs ts).2 ≠ 0 then (checkAll (gW c fs ts) c fs ts).2 else if f < 0 ∨ (fs.length : Int) ≤ f then 1 else 0) := by
  unfold proper_function.f
  rw [check_f (gW c fs ts) c fs ts hc (fun _ h => gW_in c fs ts h) k hk]
  simp only [Option.bind_some]
  by_cases h : (checkAll (gW c fs ts) c fs ts).2 = 0
  · rw [if_pos h, ite_chk h]
    by_cases h1 : f < 0
    · rw [if_pos h1, if_pos (Or.inl h1)]
    · by_cases h2 : f ≥ fs.length
      · rw [if_neg h1, if_pos h2, if_pos (Or.inr h2)]
      · rw [if_neg h1, if_neg h2, if_neg (by omega)]
  · rw [if_neg h, if_pos h]
end Go.Proofs.Ytdlikjfffdpmiaa.CProper

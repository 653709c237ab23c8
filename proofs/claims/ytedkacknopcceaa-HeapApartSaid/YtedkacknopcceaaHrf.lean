/- The document's heap (rotaref05), as printed: what each of its functions answers. Plain Lean. Conditions: each theorem's own. -/
import Derived.Test.YtedkacknopcceaaHab
import Derived.Test.YtedkacknopcceaaQHeapx3
import Derived.Test.YtedkacknopcceaaQHeapx3
import Derived.Test.YtedkacknopcceaaQHeapx3
import Derived.Test.YtedkacknopcceaaQHeapx3
set_option linter.unusedVariables false
set_option linter.unusedSimpArgs false
namespace Go.Proofs.Ytedkacknopcceaa.QHeap
open Go.RowKit Go.Proofs.Ytedkacknopcceaa.Hp Go.Proofs.YtedkacknopcceaaW.PrintWords Go.Proofs.YtedkacknopcceaaW.PrintLast Go.Proofs.YtedkacknopcceaaW.PrintMore

def toN (x : S34) : NI := ⟨x.f0, x.f1, x.f2⟩
def most : Nat := 5864062014804
theorem most_eq : most = 5864062014804 := rfl
theorem wrap_succ {i : Nat} (h : i ≤ 1000000000000000000) : wrap64 ((i : Int) + 1) = ((i + 1 : Nat) : Int) := by unfold wrap64; omega
theorem rd_at (l : List S34) (i : Nat) : rd_T34 l (i : Int) = l.getD i z34 := by simp [rd_T34]
theorem ahead_eq (a b : S34) : rotaref05_ahead.f a.f0 a.f1 a.f2 b.f0 b.f1 b.f2 = some (Hp.ahead (toN a) (toN b)) := by
  unfold rotaref05_ahead.f Hp.ahead toN
  by_cases h1 : a.f0 < b.f0
  · rw [if_pos h1]; simp [h1]
  · rw [if_neg h1]
    by_cases h2 : a.f0 = b.f0
    · rw [if_pos h2]; simp [h2]
    · rw [if_neg h2]; simp [h1, h2]

def LeastAt (l : List S34) (n i : Nat) : Prop := i < n ∧ ∀ j, j < n → ¬ lt (toN (l.getD j z34)) (toN (l.getD i z34))
theorem first_loop (l : List S34) (next : Int) (hl : l.length ≤ most) : ∀ (d k : Nat) (x3 : Int) (x4 : Nat), l.length = x4 + d → d < k → (x4 = 0 ∧ x3 = -1 ∨ ∃ i : Nat, x3 = i ∧ LeastAt l x4 i) →
    ∃ r, rotaref05_first.l0 k x3 x4 l next = some r ∧ (l.length = 0 ∧ r = -1 ∨ ∃ i : Nat, r = i ∧ LeastAt l l.length i) := by
  intro d
  induction d with
  | zero =>
    intro k x3 x4 hd hk h
    obtain ⟨k, rfl⟩ : ∃ m, k = m + 1 := ⟨k - 1, by omega⟩
    refine ⟨x3, by simp only [rotaref05_first.l0]; rw [if_neg (by omega)], ?_⟩
    obtain rfl : x4 = l.length := by omega
    exact h
  | succ d ih =>
    intro k x3 x4 hd hk h
    obtain ⟨k, rfl⟩ : ∃ m, k = m + 1 := ⟨k - 1, by omega⟩
    have hw : wrap64 ((x4 : Int) + 1) = ((x4 + 1 : Nat) : Int) := wrap_succ (by unfold most at hl; omega)
    simp only [rotaref05_first.l0]
    rw [if_pos (by omega), hw]
    rcases h with ⟨rfl, rfl⟩ | ⟨i, rfl, hi, hmin⟩
    · rw [if_pos (by decide)]
      exact ih k _ 1 (by omega) (by omega) (.inr ⟨0, rfl, by omega, fun j hj => by have e : j = 0 := (by omega); rw [e]; exact lt_irrefl _⟩)
    · rw [if_neg (by omega), if_pos (by omega), if_pos (by omega), if_pos (by omega), rd_at, rd_at, ahead_eq]
      simp only [Option.bind_some]
      by_cases ha : Hp.ahead (toN (l.getD x4 z34)) (toN (l.getD i z34)) = true
      · rw [if_pos ha]
        refine ih k _ (x4 + 1) (by omega) (by omega) (.inr ⟨x4, rfl, by omega, fun j hj => ?_⟩)
        have hl := (ahead_iff _ _).1 ha
        by_cases e : j = x4
        · rw [e]; exact lt_irrefl _
        · exact fun q => hmin j (by omega) (lt_trans q hl)
      · rw [if_neg ha]
        refine ih k _ (x4 + 1) (by omega) (by omega) (.inr ⟨i, rfl, by omega, fun j hj => ?_⟩)
        by_cases e : j = x4
        · rw [e]; exact (ahead_not _ _).1 (by simpa using ha)
        · exact hmin j (by omega)
theorem first_eq (l : List S34) (next : Int) (hl : l.length ≤ most) (k : Nat) (hk : l.length < k) : ∃ r, rotaref05_first.f k l next = some r ∧ (l.length = 0 ∧ r = -1 ∨ ∃ i : Nat, r = i ∧ LeastAt l l.length i) :=
  first_loop l next hl l.length k (-1) 0 (by omega) hk (.inl ⟨rfl, rfl⟩)

theorem getD_cons {l : List S34} {i : Nat} (h : i < l.length) : l.drop i = l.getD i z34 :: l.drop (i + 1) := by
  rw [List.drop_eq_getElem_cons h]
  simp [h]
def but (l : List S34) (x i : Nat) : List S34 := if i < x then l.drop x else (l.drop x).eraseIdx (i - x)
theorem without_loop (l : List S34) (next : Int) (i : Nat) (hl : l.length ≤ most) : ∀ (d k : Nat) (acc : List S34) (x : Nat), l.length = x + d → d < k → acc.length ≤ x →
    rotaref05_without.l0 k i acc x l next = some (acc ++ but l x i, next) := by
  intro d
  induction d with
  | zero =>
    intro k acc x hd hk ha
    obtain ⟨k, rfl⟩ : ∃ m, k = m + 1 := ⟨k - 1, by omega⟩
    simp only [rotaref05_without.l0]
    rw [if_neg (by omega)]
    have : l.drop x = [] := List.drop_of_length_le (by omega)
    simp [but, this]
  | succ d ih =>
    intro k acc x hd hk ha
    obtain ⟨k, rfl⟩ : ∃ m, k = m + 1 := ⟨k - 1, by omega⟩
    have hw : wrap64 ((x : Int) + 1) = ((x + 1 : Nat) : Int) := wrap_succ (by unfold most at hl; omega)
    have hc := getD_cons (l := l) (i := x) (by omega)
    simp only [rotaref05_without.l0]
    rw [if_pos (by omega), hw]
    by_cases e : x = i
    · subst e
      rw [if_pos rfl, ih k acc (x + 1) (by omega) (by omega) (by omega)]
      congr 2
      unfold but
      rw [if_pos (by omega), if_neg (by omega), hc]
      simp
    · rw [if_neg (by omega), if_pos (by omega), if_pos (by unfold most at hl; omega), rd_at]
      rw [show (⟨(l.getD x z34).f0, (l.getD x z34).f1, (l.getD x z34).f2⟩ : S34) = l.getD x z34 from rfl]
      rw [ih k _ (x + 1) (by omega) (by omega) (by simp; omega)]
      congr 2
      unfold but
      by_cases h : i < x
      · rw [if_pos (by omega), if_pos h, hc]; simp
      · rw [if_neg (by omega), if_neg h, hc, show i - x = (i - (x + 1)) + 1 by omega, List.eraseIdx_cons_succ]; simp
theorem without_eq (l : List S34) (next : Int) (i : Nat) (hl : l.length ≤ most) (k : Nat) (hk : l.length < k) : rotaref05_without.f k l next i = some (l.eraseIdx i, next) := by
  have := without_loop l next i hl l.length k [] 0 (by omega) hk (by simp)
  unfold rotaref05_without.f
  simpa [but] using this

theorem push_loop (l : List S34) (next w v : Int) (hl : l.length < most) (h0 : 0 ≤ next) (h1 : next ≤ 1000000000000000000) : ∀ (d k : Nat) (x : Nat), l.length = x + d → d < k →
    rotaref05_Push.l0 k w v (l.take x) x l next = some (l ++ [⟨w, next, v⟩], next + 1, next) := by
  intro d
  induction d with
  | zero =>
    intro k x hd hk
    obtain ⟨k, rfl⟩ : ∃ m, k = m + 1 := ⟨k - 1, by omega⟩
    have hlen : (l.take x).length = x := by rw [List.length_take]; omega
    simp only [rotaref05_Push.l0]
    rw [if_neg (by omega), if_pos (by rw [hlen]; unfold most at hl; omega), List.take_of_length_le (by omega)]
    rw [show wrap64 (next + 1) = next + 1 by unfold wrap64; omega]
  | succ d ih =>
    intro k x hd hk
    obtain ⟨k, rfl⟩ : ∃ m, k = m + 1 := ⟨k - 1, by omega⟩
    have hw : wrap64 ((x : Int) + 1) = ((x + 1 : Nat) : Int) := wrap_succ (by unfold most at hl; omega)
    have hlen : (l.take x).length = x := by rw [List.length_take]; omega
    simp only [rotaref05_Push.l0]
    rw [if_pos (by omega), if_pos (by omega), if_pos (by rw [hlen]; unfold most at hl; omega), hw, rd_at]
    rw [show (⟨(l.getD x z34).f0, (l.getD x z34).f1, (l.getD x z34).f2⟩ : S34) = l.getD x z34 from rfl]
    have : l.take x ++ [l.getD x z34] = l.take (x + 1) := by
      rw [List.take_succ_eq_append_getElem (by omega)]
      have hx : x < l.length := by omega
      simp [hx]
    rw [this]
    exact ih k (x + 1) (by omega) (by omega)
theorem push_eq (l : List S34) (next w v : Int) (hl : l.length < most) (h0 : 0 ≤ next) (h1 : next ≤ 1000000000000000000) (k : Nat) (hk : l.length < k) : rotaref05_Push.f k l next w v = some (l ++ [⟨w, next, v⟩], next + 1, next) := by
  have := push_loop l next w v hl h0 h1 l.length k 0 (by omega) hk
  unfold rotaref05_Push.f
  simpa using this
theorem top_none_eq (next : Int) (k : Nat) (hk : 0 < k) : rotaref05_Top.f k [] next = some (0, 0, 0, 31) := by
  obtain ⟨r, hr, h⟩ := first_eq [] next (by simp) k (by simpa using hk)
  rcases h with ⟨_, rfl⟩ | ⟨i, _, hi, _⟩
  · unfold rotaref05_Top.f; rw [hr]; rfl
  · simp at hi
theorem top_eq (l : List S34) (next : Int) (hl : l.length ≤ most) (hp : 0 < l.length) (k : Nat) (hk : l.length < k) : ∃ i : Nat, LeastAt l l.length i ∧ rotaref05_first.f k l next = some (i : Int) ∧ rotaref05_Top.f k l next = some ((l.getD i z34).f0, (l.getD i z34).f1, (l.getD i z34).f2, 0) := by
  obtain ⟨r, hr, h⟩ := first_eq l next hl k hk
  rcases h with ⟨h0, _⟩ | ⟨i, rfl, hi⟩
  · omega
  · refine ⟨i, hi, hr, ?_⟩
    unfold rotaref05_Top.f
    rw [hr]
    simp only [Option.bind_some]
    rw [if_neg (by omega), if_pos (by omega), if_pos (by have := hi.1; omega), rd_at]
theorem pop_none_eq (next : Int) (k : Nat) (hk : 0 < k) : rotaref05_Pop.f k [] next = some ([], next, 0, 0, 0, 31) := by
  unfold rotaref05_Pop.f
  rw [top_none_eq next k hk]
  rfl
theorem pop_eq (l : List S34) (next : Int) (hl : l.length ≤ most) (hp : 0 < l.length) (k : Nat) (hk : l.length < k) : ∃ i : Nat, LeastAt l l.length i ∧ rotaref05_Pop.f k l next = some (l.eraseIdx i, next, (l.getD i z34).f0, (l.getD i z34).f1, (l.getD i z34).f2, 0) := by
  obtain ⟨i, hi, h1, h2⟩ := top_eq l next hl hp k hk
  refine ⟨i, hi, ?_⟩
  unfold rotaref05_Pop.f
  rw [h2]
  simp only [Option.bind_some, if_true]
  rw [h1]
  simp only [Option.bind_some]
  rw [without_eq l next i hl k hk]
  rfl
theorem drop_eq (l : List S34) (next num : Int) (hl : l.length ≤ most) (k : Nat) (hk : 2 * l.length + 1 < k) :
    (rotaref05_Drop.f k l next num = some (l, next, 0, 0, 0, 31) ∧ ∀ j, j < l.length → (l.getD j z34).f1 ≠ num) ∨
      ∃ i, i < l.length ∧ (l.getD i z34).f1 = num ∧ rotaref05_Drop.f k l next num = some (l.eraseIdx i, next, (l.getD i z34).f0, (l.getD i z34).f1, (l.getD i z34).f2, 0) := by
  have key : ∀ (d k : Nat) (x : Nat), l.length = x + d → l.length + d < k → (∀ j, j < x → (l.getD j z34).f1 ≠ num) →
      (rotaref05_Drop.l0 k num x l next = some (l, next, 0, 0, 0, 31) ∧ ∀ j, j < l.length → (l.getD j z34).f1 ≠ num) ∨
      ∃ i, i < l.length ∧ (l.getD i z34).f1 = num ∧ rotaref05_Drop.l0 k num x l next = some (l.eraseIdx i, next, (l.getD i z34).f0, (l.getD i z34).f1, (l.getD i z34).f2, 0) := by
    intro d
    induction d with
    | zero =>
      intro k x hd hk h
      obtain ⟨k, rfl⟩ : ∃ m, k = m + 1 := ⟨k - 1, by omega⟩
      exact .inl ⟨by simp only [rotaref05_Drop.l0]; rw [if_neg (by omega)], fun j hj => h j (by omega)⟩
    | succ d ih =>
      intro k x hd hk h
      obtain ⟨k, rfl⟩ : ∃ m, k = m + 1 := ⟨k - 1, by omega⟩
      have hw : wrap64 ((x : Int) + 1) = ((x + 1 : Nat) : Int) := wrap_succ (by unfold most at hl; omega)
      simp only [rotaref05_Drop.l0]
      rw [if_pos (by omega), if_pos (by omega), rd_at]
      by_cases e : (l.getD x z34).f1 = num
      · refine .inr ⟨x, by omega, e, ?_⟩
        rw [if_pos e, without_eq l next x hl k (by omega)]
        rfl
      · rw [if_neg e, hw]
        refine ih k (x + 1) (by omega) (by omega) (fun j hj => ?_)
        by_cases e2 : j = x
        · rw [e2]; exact e
        · exact h j (by omega)
  exact key l.length k 0 (by omega) (by omega) (fun j hj => absurd hj (Nat.not_lt_zero _))
theorem same_loop (l : List Int) (hl : l.length ≤ 1000000000000000000) : ∀ (d k : Nat) (x : Nat), l.length = x + d → d < k → rotalaw05_same.l0 k l l x = some true := by
  intro d
  induction d with
  | zero =>
    intro k x hd hk
    obtain ⟨k, rfl⟩ : ∃ m, k = m + 1 := ⟨k - 1, by omega⟩
    simp only [rotalaw05_same.l0]
    rw [if_neg (by omega)]
  | succ d ih =>
    intro k x hd hk
    obtain ⟨k, rfl⟩ : ∃ m, k = m + 1 := ⟨k - 1, by omega⟩
    have hw : wrap64 ((x : Int) + 1) = ((x + 1 : Nat) : Int) := wrap_succ (by omega)
    simp only [rotalaw05_same.l0]
    rw [if_pos (by omega), if_pos (by omega), if_pos (by omega), hw]
    simp only [if_true]
    exact ih k (x + 1) (by omega) (by omega)
theorem same_eq (l : List Int) (hl : l.length ≤ 1000000000000000000) (k : Nat) (hk : l.length < k) : rotalaw05_same.f k l l = some true := by
  unfold rotalaw05_same.f
  rw [if_pos rfl]
  exact same_loop l hl l.length k 0 (by omega) hk

/-! ### the numbers, by when each is due -/
def Sorted (d : List NI) : Prop := d.Pairwise fun x y => ¬ lt y x
theorem sorted_one : ∀ {a b : List NI}, Sorted a → Sorted b → a.Perm b → Once a → a = b := by
  intro a
  induction a with
  | nil => intro b _ _ hp _; exact hp.nil_eq
  | cons x a ih =>
    intro b ha hb hp hO
    cases b with
    | nil => exact absurd hp.eq_nil (by simp)
    | cons y b =>
      unfold Sorted at ha hb ih
      rw [List.pairwise_cons] at ha hb
      have e : x = y := by
        have hx : x ∈ y :: b := hp.mem_iff.1 List.mem_cons_self
        have hy : y ∈ x :: a := hp.mem_iff.2 List.mem_cons_self
        refine least_one hO ⟨List.mem_cons_self, fun z hz => ?_⟩ ⟨hy, fun z hz => ?_⟩
        · rcases List.mem_cons.1 hz with rfl | hz
          · exact lt_irrefl _
          · exact ha.1 z hz
        · rcases List.mem_cons.1 (hp.mem_iff.1 hz) with rfl | hz
          · exact lt_irrefl _
          · exact hb.1 z hz
      subst e
      rw [ih ha.2 hb.2 (List.Perm.cons_inv hp) (by unfold Once at hO ⊢; rw [List.map_cons, List.nodup_cons] at hO; exact hO.2)]
theorem erase_toN (l : List S34) (i : Nat) (hi : i < l.length) : (l.map toN).Perm (toN (l.getD i z34) :: (l.eraseIdx i).map toN) := by
  rw [← List.map_cons]
  refine List.Perm.map _ ?_
  have h : l.getD i z34 = l[i] := by simp [hi]
  rw [h, List.eraseIdx_eq_take_drop_succ]
  refine List.Perm.trans (List.Perm.of_eq ?_) List.perm_middle
  rw [← List.drop_eq_getElem_cons hi, List.take_append_drop]
theorem least_toN {l : List S34} {i : Nat} (h : LeastAt l l.length i) : Least (l.map toN) (toN (l.getD i z34)) := by
  refine ⟨List.mem_map.2 ⟨_, by have := h.1; simp [this], rfl⟩, fun y hy => ?_⟩
  obtain ⟨x, hx, rfl⟩ := List.mem_map.1 hy
  obtain ⟨j, hj, e⟩ := List.getElem_of_mem hx
  have := h.2 j hj
  have e2 : l.getD j z34 = x := by simp [hj, e]
  rw [e2] at this
  exact this
theorem numbers_loop (next : Int) : ∀ (n : Nat) (l : List S34) (acc : List Int) (k : Nat), l.length = n → l.length ≤ most → acc.length + l.length ≤ most → 2 * n < k →
    ∃ d : List NI, rotaref05_Numbers.l0 k acc l next = some (acc ++ d.map (·.num)) ∧ d.Perm (l.map toN) ∧ Sorted d := by
  intro n
  induction n with
  | zero =>
    intro l acc k hn hl ha hk
    obtain ⟨k, rfl⟩ : ∃ m, k = m + 1 := ⟨k - 1, by omega⟩
    have : l = [] := List.eq_nil_of_length_eq_zero hn
    subst this
    refine ⟨[], by simp [rotaref05_Numbers.l0], .refl _, List.Pairwise.nil⟩
  | succ n ih =>
    intro l acc k hn hl ha hk
    obtain ⟨k, rfl⟩ : ∃ m, k = m + 1 := ⟨k - 1, by omega⟩
    obtain ⟨i, hi, hpop⟩ := pop_eq l next hl (by omega) k (by omega)
    have hlen : (l.eraseIdx i).length = n := by rw [List.length_eraseIdx, if_pos hi.1]; omega
    obtain ⟨d, h1, h2, h3⟩ := ih (l.eraseIdx i) (acc ++ [(l.getD i z34).f1]) k hlen (by omega) (by rw [List.length_append, List.length_singleton]; omega) (by omega)
    refine ⟨toN (l.getD i z34) :: d, ?_, ?_, ?_⟩
    · simp only [rotaref05_Numbers.l0]
      rw [if_pos (by omega), hpop]
      simp only [Option.bind_some]
      rw [if_pos (by unfold most at ha; omega), h1]
      simp [toN]
    · exact (h2.cons _).trans (erase_toN l i hi.1).symm
    · unfold Sorted at h3 ⊢
      rw [List.pairwise_cons]
      refine ⟨fun y hy => ?_, h3⟩
      exact (least_toN hi).2 y ((erase_toN l i hi.1).mem_iff.2 (List.mem_cons_of_mem _ (h2.mem_iff.1 hy)))
theorem numbers_eq (l : List S34) (next : Int) (hl : l.length ≤ most) (k : Nat) (hk : 2 * l.length < k) : ∃ d : List NI, rotaref05_Numbers.f k l next = some (d.map (·.num)) ∧ d.Perm (l.map toN) ∧ Sorted d := by
  have := numbers_loop next l.length l [] k rfl hl (by simpa using hl) hk
  unfold rotaref05_Numbers.f
  simpa using this
end Go.Proofs.Ytedkacknopcceaa.QHeap

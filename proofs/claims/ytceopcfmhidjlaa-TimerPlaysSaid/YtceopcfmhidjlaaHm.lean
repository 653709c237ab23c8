/- A heap of four children by (when, number), held in a list, with a map from each number to its place: what push and drop do to both.
   Conditions: each theorem's own. Plain Lean, no program. -/
set_option linter.unusedVariables false
set_option linter.unusedSimpArgs false
set_option linter.unusedSectionVars false
namespace Go.Proofs.Ytceopcfmhidjlaa.Hp

structure Nd (α : Type) where
  when : Int
  num : Int
  val : α
instance {α : Type} [Inhabited α] : Inhabited (Nd α) := ⟨⟨0, 0, default⟩⟩
variable {α : Type} [Inhabited α]
def insI (k v : Int) : List (Int × Int) → List (Int × Int)
  | [] => [(k, v)]
  | (a, u) :: r => if a = k then (k, v) :: r else (a, u) :: insI k v r
def getI (k : Int) : List (Int × Int) → Option Int
  | [] => none
  | (a, u) :: r => if a = k then some u else getI k r
def delI (k : Int) : List (Int × Int) → List (Int × Int)
  | [] => []
  | (a, u) :: r => if a = k then r else (a, u) :: delI k r
theorem get_ins_same (k v : Int) : ∀ m, getI k (insI k v m) = some v := by
  intro m
  induction m with
  | nil => simp [insI, getI]
  | cons p r ih =>
    obtain ⟨a, u⟩ := p
    unfold insI
    by_cases e : a = k
    · rw [if_pos e]; simp [getI]
    · rw [if_neg e]; simp [getI, e, ih]
theorem get_ins_other {k j v : Int} (h : j ≠ k) : ∀ m, getI j (insI k v m) = getI j m := by
  intro m
  induction m with
  | nil => simp [insI, getI, Ne.symm h]
  | cons p r ih =>
    obtain ⟨a, u⟩ := p
    unfold insI
    by_cases e : a = k
    · rw [if_pos e]
      have : ¬ a = j := fun e2 => h (e2.symm.trans e)
      simp [getI, Ne.symm h, this]
    · rw [if_neg e]
      simp only [getI, ih]
/-- Each key once. -/
def KeysOnce (m : List (Int × Int)) : Prop := (m.map (·.1)).Nodup
theorem mem_ins (k v j : Int) : ∀ m : List (Int × Int), j ∈ (insI k v m).map (·.1) ↔ j = k ∨ j ∈ m.map (·.1) := by
  intro m
  induction m with
  | nil => simp [insI]
  | cons p r ih =>
    obtain ⟨a, u⟩ := p
    unfold insI
    by_cases e : a = k
    · rw [if_pos e]; subst e; simp
    · rw [if_neg e]; simp only [List.map_cons, List.mem_cons, ih]
      constructor
      · rintro (h | h | h)
        · exact .inr (.inl h)
        · exact .inl h
        · exact .inr (.inr h)
      · rintro (h | h | h)
        · exact .inr (.inl h)
        · exact .inl h
        · exact .inr (.inr h)
theorem once_ins {k v : Int} : ∀ {m : List (Int × Int)}, KeysOnce m → KeysOnce (insI k v m) := by
  intro m
  induction m with
  | nil => intro _; simp [KeysOnce, insI]
  | cons p r ih =>
    intro h
    obtain ⟨a, u⟩ := p
    unfold KeysOnce at h ih ⊢
    rw [List.map_cons, List.nodup_cons] at h
    unfold insI
    by_cases e : a = k
    · rw [if_pos e]; subst e; rw [List.map_cons, List.nodup_cons]; exact h
    · rw [if_neg e, List.map_cons, List.nodup_cons]
      refine ⟨fun hm => ?_, ih h.2⟩
      rcases (mem_ins k v a r).1 hm with h1 | h1
      · exact e h1
      · exact h.1 h1
theorem get_none {k : Int} : ∀ {m : List (Int × Int)}, k ∉ m.map (·.1) → getI k m = none := by
  intro m
  induction m with
  | nil => intro _; rfl
  | cons p r ih =>
    intro h
    obtain ⟨a, u⟩ := p
    simp only [List.map_cons, List.mem_cons, not_or] at h
    unfold getI
    rw [if_neg (fun e => h.1 e.symm), ih h.2]
theorem mem_del {k j : Int} : ∀ {m : List (Int × Int)}, j ∈ (delI k m).map (·.1) → j ∈ m.map (·.1) := by
  intro m
  induction m with
  | nil => intro h; exact h
  | cons p r ih =>
    intro h
    obtain ⟨a, u⟩ := p
    unfold delI at h
    by_cases e : a = k
    · rw [if_pos e] at h; exact List.mem_cons_of_mem _ h
    · rw [if_neg e] at h
      simp only [List.map_cons, List.mem_cons] at h ⊢
      exact h.imp id ih
theorem once_del {k : Int} : ∀ {m : List (Int × Int)}, KeysOnce m → KeysOnce (delI k m) := by
  intro m
  induction m with
  | nil => intro h; exact h
  | cons p r ih =>
    intro h
    obtain ⟨a, u⟩ := p
    unfold KeysOnce at h ih ⊢
    rw [List.map_cons, List.nodup_cons] at h
    unfold delI
    by_cases e : a = k
    · rw [if_pos e]; exact h.2
    · rw [if_neg e, List.map_cons, List.nodup_cons]
      exact ⟨fun hm => h.1 (mem_del hm), ih h.2⟩
theorem get_del_same (k : Int) : ∀ m, KeysOnce m → getI k (delI k m) = none := by
  intro m
  induction m with
  | nil => intro _; rfl
  | cons p r ih =>
    intro h
    obtain ⟨a, u⟩ := p
    unfold KeysOnce at h ih
    rw [List.map_cons, List.nodup_cons] at h
    unfold delI
    by_cases e : a = k
    · rw [if_pos e]; subst e; exact get_none h.1
    · rw [if_neg e]; simp [getI, e, ih h.2]
theorem get_del_other {k j : Int} (h : j ≠ k) : ∀ m, getI j (delI k m) = getI j m := by
  intro m
  induction m with
  | nil => rfl
  | cons p r ih =>
    obtain ⟨a, u⟩ := p
    unfold delI
    by_cases e : a = k
    · rw [if_pos e]
      have : ¬ a = j := fun e2 => h (e2.symm.trans e)
      simp [getI, this]
    · rw [if_neg e]; simp only [getI, ih]

/-! ### the order -/
def lt (a b : Nd α) : Prop := a.when < b.when ∨ (a.when = b.when ∧ a.num < b.num)
def ahead (a b : Nd α) : Bool := decide (a.when < b.when) || ((a.when == b.when) && decide (a.num < b.num))
theorem ahead_iff (a b : Nd α) : ahead a b = true ↔ lt a b := by simp [ahead, lt]
theorem ahead_not (a b : Nd α) : ahead a b = false ↔ ¬ lt a b := by rw [← ahead_iff]; simp
theorem lt_irrefl (a : Nd α) : ¬ lt a a := by unfold lt; omega
theorem lt_asymm {a b : Nd α} (h : lt a b) : ¬ lt b a := by unfold lt at *; omega
theorem lt_trans {a b c : Nd α} (h : lt a b) (g : lt b c) : lt a c := by unfold lt at *; omega
theorem nlt_trans {a b c : Nd α} (h : ¬ lt b a) (g : ¬ lt c b) : ¬ lt c a := by unfold lt at *; omega
theorem nlt_lt {a b c : Nd α} (h : ¬ lt b a) (g : lt b c) : ¬ lt c a := by unfold lt at *; omega
theorem lt_nlt {a b c : Nd α} (h : lt a b) (g : ¬ lt c b) : lt a c := by unfold lt at *; omega

def nd (l : List (Nd α)) (i : Nat) : Nd α := l.getD i default
theorem nd_at {l : List (Nd α)} {i : Nat} (h : i < l.length) : nd l i = l[i] := by simp [nd, h]
theorem nd_set_same {l : List (Nd α)} {i : Nat} {n : Nd α} (h : i < l.length) : nd (l.set i n) i = n := by simp [nd, h]
theorem nd_set_other {l : List (Nd α)} {i j : Nat} {n : Nd α} (h : i ≠ j) : nd (l.set i n) j = nd l j := by simp [nd, List.getElem?_set, h]
def par (i : Nat) : Nat := (i - 1) / 4
theorem par_lt {i : Nat} (h : 0 < i) : par i < i := by unfold par; omega

/-! ### what the code does -/
def upF : Nat → List (Nd α) → List (Int × Int) → Nat → Nd α → List (Nd α) × List (Int × Int) × Nat
  | 0, l, m, i, _ => (l, m, i)
  | k + 1, l, m, i, n => if i = 0 then (l, m, i) else if ahead n (nd l (par i)) = true then upF k (l.set i (nd l (par i))) (insI (nd l (par i)).num i m) (par i) n else (l, m, i)
def best (l : List (Nd α)) : Nat → Nat → Nat → Nat
  | 0, k, _ => k
  | d + 1, k, j => best l d (if ahead (nd l j) (nd l k) = true then j else k) (j + 1)
def kid (l : List (Nd α)) (i : Nat) : Nat := best l (min (4 * i + 1 + 4) l.length - (4 * i + 1 + 1)) (4 * i + 1) (4 * i + 1 + 1)
def downF : Nat → List (Nd α) → List (Int × Int) → Nat → Nd α → List (Nd α) × List (Int × Int) × Nat
  | 0, l, m, i, _ => (l, m, i)
  | k + 1, l, m, i, n => if l.length ≤ 4 * i + 1 then (l, m, i) else if ahead (nd l (kid l i)) n = true then downF k (l.set i (nd l (kid l i))) (insI (nd l (kid l i)).num i m) (kid l i) n else (l, m, i)
def put (q : List (Nd α) × List (Int × Int) × Nat) (n : Nd α) : List (Nd α) × List (Int × Int) := (q.1.set q.2.2 n, insI n.num q.2.2 q.2.1)
def upA (l : List (Nd α)) (m : List (Int × Int)) (i : Nat) : List (Nd α) × List (Int × Int) := put (upF i l m i (nd l i)) (nd l i)
def downA (l : List (Nd α)) (m : List (Int × Int)) (i : Nat) : List (Nd α) × List (Int × Int) := put (downF (l.length - i) l m i (nd l i)) (nd l i)
def pushA (l : List (Nd α)) (m : List (Int × Int)) (n : Nd α) : List (Nd α) × List (Int × Int) := upA (l ++ [n]) m l.length
/-- What takes out the node at a place. -/
def dropA (l : List (Nd α)) (m : List (Int × Int)) (num : Int) (i : Nat) : List (Nd α) × List (Int × Int) :=
  let x := nd l (l.length - 1)
  let l1 := l.take (l.length - 1)
  let m1 := delI num m
  if i < l.length - 1 then
    let q := upA (l1.set i x) (insI x.num i m1) i
    downA q.1 q.2 ((getI x.num q.2).getD 0).toNat
  else (l1, m1)

/-! ### what holds -/
def Heap (l : List (Nd α)) : Prop := ∀ j, 0 < j → j < l.length → ¬ lt (nd l j) (nd l (par j))
def Places (l : List (Nd α)) (m : List (Int × Int)) : Prop := (∀ j, j < l.length → getI (nd l j).num m = some (j : Int)) ∧ (∀ k v, getI k m = some v → ∃ j, j < l.length ∧ (nd l j).num = k)
def Inv (l : List (Nd α)) (m : List (Int × Int)) : Prop := Heap l ∧ Places l m ∧ KeysOnce m
/-- A heap but for what stands at i. -/
def Ex (L : List (Nd α)) (i : Nat) : Prop :=
  (∀ j, 0 < j → j < L.length → j ≠ i → par j ≠ i → ¬ lt (nd L j) (nd L (par j))) ∧ (∀ j, 0 < j → j < L.length → par j = i → 0 < i → ¬ lt (nd L j) (nd L (par i)))
def Kids (L : List (Nd α)) (i : Nat) : Prop := ∀ j, 0 < j → j < L.length → par j = i → ¬ lt (nd L j) (nd L i)
def Dad (L : List (Nd α)) (i : Nat) : Prop := 0 < i → ¬ lt (nd L i) (nd L (par i))
/-- The map but for what stands at i. -/
def Hole (L : List (Nd α)) (m : List (Int × Int)) (i : Nat) : Prop :=
  (∀ j, j < L.length → j ≠ i → getI (nd L j).num m = some (j : Int)) ∧ (∀ k v, getI k m = some v → ∃ j, j < L.length ∧ (nd L j).num = k)
def Once (L : List (Nd α)) : Prop := (L.map (·.num)).Nodup
theorem once_perm {L L' : List (Nd α)} (h : L'.Perm L) (hO : Once L) : Once L' := by unfold Once at *; exact (List.Perm.nodup_iff (h.map _)).2 hO
theorem erase_perm {L : List (Nd α)} {i : Nat} (h : i < L.length) : (L[i] :: L.eraseIdx i).Perm L := by
  rw [List.eraseIdx_eq_take_drop_succ]
  refine List.perm_middle.symm.trans (List.Perm.of_eq ?_)
  rw [← List.drop_eq_getElem_cons h, List.take_append_drop]
theorem once_inj {L : List (Nd α)} (h : Once L) {i j : Nat} (hi : i < L.length) (hj : j < L.length) (e : (nd L i).num = (nd L j).num) : i = j := by
  unfold Once at h
  rw [nd_at hi, nd_at hj] at e
  rw [List.nodup_iff_pairwise_ne, List.pairwise_iff_getElem] at h
  rcases Nat.lt_trichotomy i j with h1 | h1 | h1
  · have := h i j (by simpa using hi) (by simpa using hj) h1
    rw [List.getElem_map, List.getElem_map] at this
    exact absurd e this
  · exact h1
  · have := h j i (by simpa using hj) (by simpa using hi) h1
    rw [List.getElem_map, List.getElem_map] at this
    exact absurd e.symm this

theorem swap_perm {l : List (Nd α)} {i p : Nat} {n : Nd α} (hi : i < l.length) (hp : p < l.length) (hne : p ≠ i) : ((l.set i (nd l p)).set p n).Perm (l.set i n) := by
  have h := List.set_set_perm (as := l.set i n) (i := i) (j := p) (by simpa using hi) (by simpa using hp)
  simp only [List.getElem_set, if_pos, List.set_set] at h
  rw [if_neg (Ne.symm hne)] at h
  rw [nd_at hp]
  exact h
theorem set_set_comm' {l : List (Nd α)} {i p : Nat} {a b : Nd α} (h : i ≠ p) : (l.set i a).set p b = (l.set p b).set i a := List.set_comm _ _ h

theorem up_step {l : List (Nd α)} {m : List (Int × Int)} {i : Nat} {n : Nd α} (hi : i < l.length) (h0 : 0 < i) (ha : lt n (nd l (par i)))
    (hE : Ex (l.set i n) i) (hO : Once (l.set i n)) (hH : Hole (l.set i n) m i) :
    Ex ((l.set i (nd l (par i))).set (par i) n) (par i) ∧ Kids ((l.set i (nd l (par i))).set (par i) n) (par i) ∧ Once ((l.set i (nd l (par i))).set (par i) n) ∧ Hole ((l.set i (nd l (par i))).set (par i) n) (insI (nd l (par i)).num i m) (par i) := by
  have hp : par i < i := par_lt h0
  have hpl : par i < l.length := by omega
  have L0 : ∀ j, j ≠ i → nd (l.set i n) j = nd l j := fun j hj => nd_set_other (Ne.symm hj)
  have L1 : nd (l.set i n) i = n := nd_set_same hi
  have N0 : nd ((l.set i (nd l (par i))).set (par i) n) (par i) = n := nd_set_same (by simpa using hpl)
  have N1 : nd ((l.set i (nd l (par i))).set (par i) n) i = nd l (par i) := by rw [nd_set_other (by omega), nd_set_same hi]
  have N2 : ∀ j, j ≠ i → j ≠ par i → nd ((l.set i (nd l (par i))).set (par i) n) j = nd l j := fun j h1 h2 => by rw [nd_set_other (Ne.symm h2), nd_set_other (Ne.symm h1)]
  have ln : ((l.set i (nd l (par i))).set (par i) n).length = l.length := by simp
  have ln' : (l.set i n).length = l.length := by simp
  obtain ⟨e1, e2⟩ := hE
  obtain ⟨g1, g2⟩ := hH
  rw [ln'] at e1 e2 g1
  have sib : ∀ j, 0 < j → j < l.length → j ≠ i → par j = par i → ¬ lt (nd l j) (nd l (par i)) := by
    intro j h1 h2 h3 h4
    have := e1 j h1 h2 h3 (by omega)
    rw [L0 j h3, h4, L0 (par i) (by omega)] at this
    exact this
  have dad : 0 < par i → ¬ lt (nd l (par i)) (nd l (par (par i))) := by
    intro h
    have hpp : par (par i) < par i := par_lt h
    have := e1 (par i) h hpl (by omega) (by omega)
    rw [L0 (par i) (by omega), L0 (par (par i)) (by omega)] at this
    exact this
  refine ⟨⟨?_, ?_⟩, ?_, ?_, ⟨?_, ?_⟩⟩
  · intro j h1 h2 h3 h4
    rw [ln] at h2
    have hj : j ≠ i := fun e => h4 (by rw [e])
    by_cases hpj : par j = i
    · rw [hpj, N1, N2 j hj h3]
      have := e2 j h1 h2 hpj h0
      rw [L0 j hj, L0 (par i) (by omega)] at this
      exact this
    · rw [N2 j hj h3, N2 (par j) hpj h4]
      have := e1 j h1 h2 hj hpj
      rw [L0 j hj, L0 (par j) hpj] at this
      exact this
  · intro j h1 h2 h3 h4
    rw [ln] at h2
    have hpp : par (par i) < par i := par_lt h4
    have hj : j ≠ par i := by intro e; rw [e] at h3; omega
    rw [N2 (par (par i)) (by omega) (by omega)]
    by_cases hji : j = i
    · rw [hji, N1]; exact dad h4
    · rw [N2 j hji hj]
      exact nlt_trans (dad h4) (sib j h1 h2 hji h3)
  · intro j h1 h2 h3
    rw [ln] at h2
    rw [N0]
    have hj : j ≠ par i := by intro e; rw [e] at h3; have := par_lt (i := par i) (by omega); omega
    by_cases hji : j = i
    · rw [hji, N1]; exact lt_asymm ha
    · rw [N2 j hji hj]
      exact fun h => sib j h1 h2 hji h3 (lt_trans h ha)
  · exact once_perm (swap_perm hi hpl (by omega)) hO
  · intro j h1 h2
    rw [ln] at h1
    by_cases hji : j = i
    · rw [hji, N1, get_ins_same]
    · rw [N2 j hji h2, get_ins_other]
      · have := g1 j h1 hji
        rw [L0 j hji] at this
        exact this
      · intro e
        refine h2 (once_inj hO (by simpa using h1) (by simpa using hpl) ?_)
        rw [L0 j hji, L0 (par i) (by omega), e]
  · intro k v hk
    have key : ∃ j, j < (l.set i n).length ∧ (nd (l.set i n) j).num = k := by
      by_cases e : k = (nd l (par i)).num
      · exact ⟨par i, by simpa using hpl, by rw [L0 (par i) (by omega), e]⟩
      · rw [get_ins_other e] at hk; exact g2 k v hk
    obtain ⟨j, hj, hn⟩ := key
    rw [ln'] at hj
    by_cases hji : j = i
    · exact ⟨par i, by omega, by rw [N0]; rw [hji, L1] at hn; exact hn⟩
    · by_cases hjp : j = par i
      · exact ⟨i, by omega, by rw [N1]; rw [L0 j hji, hjp] at hn; exact hn⟩
      · exact ⟨j, by omega, by rw [N2 j hji hjp]; rw [L0 j hji] at hn; exact hn⟩

theorem up_all : ∀ (k : Nat) (l : List (Nd α)) (m : List (Int × Int)) (i : Nat) (n : Nd α), i ≤ k → i < l.length → Ex (l.set i n) i → Once (l.set i n) → Hole (l.set i n) m i → KeysOnce m →
    (upF k l m i n).2.2 < l.length ∧ (upF k l m i n).1.length = l.length ∧ ((upF k l m i n).1.set (upF k l m i n).2.2 n).Perm (l.set i n) ∧ Ex ((upF k l m i n).1.set (upF k l m i n).2.2 n) (upF k l m i n).2.2 ∧ Dad ((upF k l m i n).1.set (upF k l m i n).2.2 n) (upF k l m i n).2.2 ∧ Hole ((upF k l m i n).1.set (upF k l m i n).2.2 n) (upF k l m i n).2.1 (upF k l m i n).2.2 ∧ KeysOnce (upF k l m i n).2.1 ∧ (Kids (l.set i n) i → Kids ((upF k l m i n).1.set (upF k l m i n).2.2 n) (upF k l m i n).2.2) := by
  intro k
  induction k with
  | zero =>
    intro l m i n hk hi hE hO hH hK
    obtain rfl : i = 0 := by omega
    exact ⟨hi, rfl, .refl _, hE, fun h => absurd h (by show ¬ 0 < 0; omega), hH, hK, id⟩
  | succ k ih =>
    intro l m i n hk hi hE hO hH hK
    unfold upF
    by_cases h0 : i = 0
    · rw [if_pos h0]
      exact ⟨hi, rfl, .refl _, hE, fun h => absurd h (by show ¬ 0 < i; omega), hH, hK, id⟩
    · rw [if_neg h0]
      by_cases ha : ahead n (nd l (par i)) = true
      · rw [if_pos ha]
        have hp : par i < i := par_lt (by omega)
        obtain ⟨s1, s2, s3, s4⟩ := up_step hi (by omega) ((ahead_iff _ _).1 ha) hE hO hH
        obtain ⟨r1, r2, r3, r4, r5, r6, r7, r8⟩ := ih (l.set i (nd l (par i))) (insI (nd l (par i)).num i m) (par i) n (by omega) (by simp; omega) s1 s3 s4 (once_ins hK)
        rw [List.length_set] at r1 r2
        exact ⟨r1, r2, r3.trans (swap_perm hi (by omega) (by omega)), r4, r5, r6, r7, fun _ => r8 s2⟩
      · rw [if_neg ha]
        refine ⟨hi, rfl, .refl _, hE, fun _ => ?_, hH, hK, id⟩
        have := (ahead_not _ _).1 (by simpa using ha)
        show ¬ lt (nd (l.set i n) i) (nd (l.set i n) (par i))
        rw [nd_set_same hi, nd_set_other (by have := par_lt (i := i) (by omega); omega)]
        exact this

/-! ### down -/
theorem best_spec (l : List (Nd α)) : ∀ (d k j : Nat), k < j → (best l d k j = k ∨ (j ≤ best l d k j ∧ best l d k j < j + d)) ∧ (¬ lt (nd l k) (nd l (best l d k j))) ∧ ∀ x, j ≤ x → x < j + d → ¬ lt (nd l x) (nd l (best l d k j)) := by
  intro d
  induction d with
  | zero => intro k j _; exact ⟨.inl rfl, lt_irrefl _, fun x h1 h2 => by omega⟩
  | succ d ih =>
    intro k j hk
    unfold best
    by_cases ha : ahead (nd l j) (nd l k) = true
    · rw [if_pos ha]
      obtain ⟨h1, h2, h3⟩ := ih j (j + 1) (by omega)
      have hl := (ahead_iff _ _).1 ha
      refine ⟨.inr ?_, fun h => h2 (lt_trans hl h), fun x q1 q2 => ?_⟩
      · rcases h1 with h1 | h1 <;> omega
      · by_cases e : x = j
        · rw [e]; exact h2
        · exact h3 x (by omega) (by omega)
    · rw [if_neg ha]
      obtain ⟨h1, h2, h3⟩ := ih k (j + 1) (by omega)
      have hl := (ahead_not _ _).1 (by simpa using ha)
      refine ⟨?_, h2, fun x q1 q2 => ?_⟩
      · rcases h1 with h1 | h1
        · exact .inl h1
        · exact .inr (by omega)
      · by_cases e : x = j
        · rw [e]; exact nlt_trans h2 hl
        · exact h3 x (by omega) (by omega)
theorem kid_spec (l : List (Nd α)) (i : Nat) (h : 4 * i + 1 < l.length) : kid l i < l.length ∧ 0 < kid l i ∧ par (kid l i) = i ∧ ∀ x, 0 < x → x < l.length → par x = i → ¬ lt (nd l x) (nd l (kid l i)) := by
  obtain ⟨h1, h2, h3⟩ := best_spec l (min (4 * i + 1 + 4) l.length - (4 * i + 1 + 1)) (4 * i + 1) (4 * i + 1 + 1) (by omega)
  have hk : best l (min (4 * i + 1 + 4) l.length - (4 * i + 1 + 1)) (4 * i + 1) (4 * i + 1 + 1) = kid l i := rfl
  rw [hk] at h1 h2 h3
  refine ⟨by rcases h1 with h1 | h1 <;> omega, by rcases h1 with h1 | h1 <;> omega, ?_, fun x q0 q1 q2 => ?_⟩
  · unfold par; rcases h1 with h1 | h1 <;> omega
  · unfold par at q2
    by_cases e : x = 4 * i + 1
    · rw [e]; exact h2
    · exact h3 x (by omega) (by omega)

theorem down_step {l : List (Nd α)} {m : List (Int × Int)} {i : Nat} {n : Nd α} (hi : i < l.length) (hk : 4 * i + 1 < l.length) (ha : lt (nd l (kid l i)) n)
    (hE : Ex (l.set i n) i) (hD : Dad (l.set i n) i) (hO : Once (l.set i n)) (hH : Hole (l.set i n) m i) :
    Ex ((l.set i (nd l (kid l i))).set (kid l i) n) (kid l i) ∧ Dad ((l.set i (nd l (kid l i))).set (kid l i) n) (kid l i) ∧ Once ((l.set i (nd l (kid l i))).set (kid l i) n) ∧ Hole ((l.set i (nd l (kid l i))).set (kid l i) n) (insI (nd l (kid l i)).num i m) (kid l i) := by
  obtain ⟨hcl, hc0, hcp, hcm⟩ := kid_spec l i hk
  generalize kid l i = c at *
  have hic : i < c := by unfold par at hcp; omega
  have L0 : ∀ j, j ≠ i → nd (l.set i n) j = nd l j := fun j hj => nd_set_other (Ne.symm hj)
  have L1 : nd (l.set i n) i = n := nd_set_same hi
  have N0 : nd ((l.set i (nd l c)).set c n) c = n := nd_set_same (by simpa using hcl)
  have N1 : nd ((l.set i (nd l c)).set c n) i = nd l c := by rw [nd_set_other (by omega), nd_set_same hi]
  have N2 : ∀ j, j ≠ i → j ≠ c → nd ((l.set i (nd l c)).set c n) j = nd l j := fun j h1 h2 => by rw [nd_set_other (Ne.symm h2), nd_set_other (Ne.symm h1)]
  have ln : ((l.set i (nd l c)).set c n).length = l.length := by simp
  have ln' : (l.set i n).length = l.length := by simp
  obtain ⟨e1, e2⟩ := hE
  obtain ⟨g1, g2⟩ := hH
  rw [ln'] at e1 e2 g1
  refine ⟨⟨?_, ?_⟩, ?_, ?_, ⟨?_, ?_⟩⟩
  · intro j h1 h2 h3 h4
    rw [ln] at h2
    have hpj : par j < j := par_lt h1
    by_cases hji : j = i
    · rw [hji, N1, N2 (par i) (by have := par_lt (i := i) (by omega); omega) (by have := par_lt (i := i) (by omega); omega)]
      have := e2 c hc0 hcl hcp (by omega)
      rw [L0 c (by omega), L0 (par i) (by have := par_lt (i := i) (by omega); omega)] at this
      exact this
    · by_cases hpi : par j = i
      · rw [hpi, N1, N2 j hji h3]
        exact hcm j h1 h2 hpi
      · rw [N2 j hji h3, N2 (par j) hpi h4]
        have := e1 j h1 h2 hji hpi
        rw [L0 j hji, L0 (par j) hpi] at this
        exact this
  · intro j h1 h2 h3 h4
    rw [ln] at h2
    have hpj : par j < j := par_lt h1
    rw [hcp, N1, N2 j (by omega) (by omega)]
    have := e1 j h1 h2 (by omega) (by omega)
    rw [h3, L0 j (by omega), L0 c (by omega)] at this
    exact this
  · intro _
    rw [hcp, N0, N1]
    exact lt_asymm ha
  · exact once_perm (swap_perm hi hcl (by omega)) hO
  · intro j h1 h2
    rw [ln] at h1
    by_cases hji : j = i
    · rw [hji, N1, get_ins_same]
    · rw [N2 j hji h2, get_ins_other]
      · have := g1 j h1 hji
        rw [L0 j hji] at this
        exact this
      · intro e
        refine h2 (once_inj hO (by simpa using h1) (by simpa using hcl) ?_)
        rw [L0 j hji, L0 c (by omega), e]
  · intro k v hk
    have key : ∃ j, j < (l.set i n).length ∧ (nd (l.set i n) j).num = k := by
      by_cases e : k = (nd l c).num
      · exact ⟨c, by simpa using hcl, by rw [L0 c (by omega), e]⟩
      · rw [get_ins_other e] at hk; exact g2 k v hk
    obtain ⟨j, hj, hn⟩ := key
    rw [ln'] at hj
    by_cases hji : j = i
    · exact ⟨c, by omega, by rw [N0]; rw [hji, L1] at hn; exact hn⟩
    · by_cases hjp : j = c
      · exact ⟨i, by omega, by rw [N1]; rw [L0 j hji, hjp] at hn; exact hn⟩
      · exact ⟨j, by omega, by rw [N2 j hji hjp]; rw [L0 j hji] at hn; exact hn⟩

theorem down_all : ∀ (k : Nat) (l : List (Nd α)) (m : List (Int × Int)) (i : Nat) (n : Nd α), l.length ≤ i + k → i < l.length → Ex (l.set i n) i → Dad (l.set i n) i → Once (l.set i n) → Hole (l.set i n) m i → KeysOnce m →
    (downF k l m i n).2.2 < l.length ∧ (downF k l m i n).1.length = l.length ∧ ((downF k l m i n).1.set (downF k l m i n).2.2 n).Perm (l.set i n) ∧ Heap ((downF k l m i n).1.set (downF k l m i n).2.2 n) ∧ Hole ((downF k l m i n).1.set (downF k l m i n).2.2 n) (downF k l m i n).2.1 (downF k l m i n).2.2 ∧ KeysOnce (downF k l m i n).2.1 := by
  intro k
  induction k with
  | zero =>
    intro l m i n hk hi hE hD hO hH hK
    omega
  | succ k ih =>
    intro l m i n hk hi hE hD hO hH hK
    unfold downF
    by_cases h0 : l.length ≤ 4 * i + 1
    · rw [if_pos h0]
      refine ⟨hi, rfl, .refl _, ?_, hH, hK⟩
      intro j h1 h2
      by_cases hji : j = i
      · rw [hji]; exact hD (by omega)
      · rw [List.length_set] at h2
        have h2' : j < l.length := h2
        exact hE.1 j h1 (by simpa using h2') hji (by unfold par; omega)
    · rw [if_neg h0]
      obtain ⟨hcl, hc0, hcp, hcm⟩ := kid_spec l i (by omega)
      have hci : i < kid l i := by have := par_lt hc0; rw [hcp] at this; exact this
      by_cases ha : ahead (nd l (kid l i)) n = true
      · rw [if_pos ha]
        obtain ⟨s1, s2, s3, s4⟩ := down_step hi (by omega) ((ahead_iff _ _).1 ha) hE hD hO hH
        obtain ⟨r1, r2, r3, r4, r5, r6⟩ := ih (l.set i (nd l (kid l i))) (insI (nd l (kid l i)).num i m) (kid l i) n (by simp; omega) (by simp; omega) s1 s2 s3 s4 (once_ins hK)
        rw [List.length_set] at r1 r2
        exact ⟨r1, r2, r3.trans (swap_perm hi (by omega) (by omega)), r4, r5, r6⟩
      · rw [if_neg ha]
        refine ⟨hi, rfl, .refl _, ?_, hH, hK⟩
        have hna := (ahead_not _ _).1 (by simpa using ha)
        intro j h1 h2
        rw [List.length_set] at h2
        by_cases hji : j = i
        · rw [hji]; exact hD (by omega)
        · by_cases hpi : par j = i
          · rw [hpi, nd_set_same hi, nd_set_other (Ne.symm hji)]
            exact nlt_trans hna (hcm j h1 h2 hpi)
          · exact hE.1 j h1 (by simpa using h2) hji hpi

/-! ### put, push, drop -/
theorem set_nd {l : List (Nd α)} {i : Nat} (h : i < l.length) : l.set i (nd l i) = l := by rw [nd_at h]; exact List.set_getElem_self h
theorem places_hole {L : List (Nd α)} {m : List (Int × Int)} {i : Nat} (hi : i < L.length) (hO : Once L) (h : Hole L m i) : Places L (insI (nd L i).num i m) := by
  refine ⟨fun j hj => ?_, fun k v hk => ?_⟩
  · by_cases e : j = i
    · rw [e, get_ins_same]
    · rw [get_ins_other (fun q => e (once_inj hO hj hi q))]; exact h.1 j hj e
  · by_cases e : k = (nd L i).num
    · exact ⟨i, hi, e.symm⟩
    · rw [get_ins_other e] at hk; exact h.2 k v hk
theorem once_places {L : List (Nd α)} {m : List (Int × Int)} (h : Places L m) : Once L := by
  unfold Once
  rw [List.nodup_iff_pairwise_ne, List.pairwise_iff_getElem]
  intro i j hi hj hij e
  rw [List.getElem_map, List.getElem_map] at e
  rw [List.length_map] at hi hj
  have h1 := h.1 i hi
  have h2 := h.1 j hj
  rw [nd_at hi] at h1
  rw [nd_at hj, ← e, h1] at h2
  have := Option.some.inj h2
  omega
/-- What up does where all is well but for one place. -/
theorem upA_spec {l : List (Nd α)} {m : List (Int × Int)} {i : Nat} (hi : i < l.length) (hE : Ex l i) (hO : Once l) (hH : Hole l m i) (hK : KeysOnce m) :
    ∃ i', i' < l.length ∧ (upA l m i).1.length = l.length ∧ nd (upA l m i).1 i' = nd l i ∧ (upA l m i).1.Perm l ∧ Ex (upA l m i).1 i' ∧ Dad (upA l m i).1 i' ∧ Places (upA l m i).1 (upA l m i).2 ∧ KeysOnce (upA l m i).2 ∧ (Kids l i → Kids (upA l m i).1 i') := by
  have es := set_nd hi
  obtain ⟨r1, r2, r3, r4, r5, r6, r7, r8⟩ := up_all i l m i (nd l i) (Nat.le_refl _) hi (by rw [es]; exact hE) (by rw [es]; exact hO) (by rw [es]; exact hH) hK
  rw [es] at r3 r8
  have hn : nd ((upF i l m i (nd l i)).1.set (upF i l m i (nd l i)).2.2 (nd l i)) (upF i l m i (nd l i)).2.2 = nd l i := nd_set_same (by rw [r2]; exact r1)
  refine ⟨(upF i l m i (nd l i)).2.2, r1, by show (List.set _ _ _).length = _; rw [List.length_set, r2], hn, r3, r4, r5, ?_, once_ins r7, r8⟩
  have := places_hole (i := (upF i l m i (nd l i)).2.2) (by rw [List.length_set, r2]; exact r1) (once_perm r3 hO) r6
  rw [hn] at this
  exact this
theorem downA_spec {l : List (Nd α)} {m : List (Int × Int)} {i : Nat} (hi : i < l.length) (hE : Ex l i) (hD : Dad l i) (hO : Once l) (hH : Hole l m i) (hK : KeysOnce m) :
    (downA l m i).1.Perm l ∧ Inv (downA l m i).1 (downA l m i).2 := by
  have es := set_nd hi
  obtain ⟨r1, r2, r3, r4, r5, r6⟩ := down_all (l.length - i) l m i (nd l i) (by omega) hi (by rw [es]; exact hE) (by rw [es]; exact hD) (by rw [es]; exact hO) (by rw [es]; exact hH) hK
  rw [es] at r3
  have hn : nd ((downF (l.length - i) l m i (nd l i)).1.set (downF (l.length - i) l m i (nd l i)).2.2 (nd l i)) (downF (l.length - i) l m i (nd l i)).2.2 = nd l i := nd_set_same (by rw [r2]; exact r1)
  refine ⟨r3, r4, ?_, once_ins r6⟩
  have := places_hole (i := (downF (l.length - i) l m i (nd l i)).2.2) (by rw [List.length_set, r2]; exact r1) (once_perm r3 hO) r5
  rw [hn] at this
  exact this
theorem inv_once {l : List (Nd α)} {m : List (Int × Int)} (h : Inv l m) : Once l := once_places h.2.1
theorem nd_mem {l : List (Nd α)} {i : Nat} (h : i < l.length) : nd l i ∈ l := by rw [nd_at h]; exact List.getElem_mem h
theorem mem_nd {l : List (Nd α)} {x : Nd α} (h : x ∈ l) : ∃ i, i < l.length ∧ nd l i = x := by
  obtain ⟨i, hi, e⟩ := List.getElem_of_mem h
  exact ⟨i, hi, by rw [nd_at hi, e]⟩
theorem nd_app {l : List (Nd α)} {n : Nd α} {i : Nat} (h : i < l.length) : nd (l ++ [n]) i = nd l i := by simp [nd, List.getElem?_append_left h]
theorem nd_last {l : List (Nd α)} {n : Nd α} : nd (l ++ [n]) l.length = n := by simp [nd]
theorem nd_take {l : List (Nd α)} {i k : Nat} (h : i < k) : nd (l.take k) i = nd l i := by simp [nd, List.getElem?_take, h]

theorem push_spec {l : List (Nd α)} {m : List (Int × Int)} {n : Nd α} (h : Inv l m) (hn : ∀ x ∈ l, x.num ≠ n.num) : Inv (pushA l m n).1 (pushA l m n).2 ∧ (pushA l m n).1.Perm (l ++ [n]) := by
  obtain ⟨h1, h2, h3⟩ := h
  have hO : Once (l ++ [n]) := by
    unfold Once
    rw [List.map_append, List.nodup_append]
    refine ⟨once_places h2, by simp, fun a ha b hb e => ?_⟩
    obtain ⟨x, hx, rfl⟩ := List.mem_map.1 ha
    rw [List.map_cons, List.map_nil, List.mem_singleton] at hb
    exact hn x hx (e.trans hb)
  have hlen : (l ++ [n]).length = l.length + 1 := by simp
  have hE : Ex (l ++ [n]) l.length := by
    refine ⟨fun j q1 q2 q3 q4 => ?_, fun j q1 q2 q3 q4 => by unfold par at q3; omega⟩
    have := par_lt q1
    rw [nd_app (by omega), nd_app (by omega)]
    exact h1 j q1 (by omega)
  have hH : Hole (l ++ [n]) m l.length := by
    refine ⟨fun j q1 q2 => ?_, fun k v hk => ?_⟩
    · rw [nd_app (by omega)]; exact h2.1 j (by omega)
    · obtain ⟨j, q1, q2⟩ := h2.2 k v hk
      exact ⟨j, by omega, by rw [nd_app q1]; exact q2⟩
  have hKd : Kids (l ++ [n]) l.length := fun j q1 q2 q3 => by unfold par at q3; omega
  obtain ⟨i', r1, r2, r3, r4, r5, r6, r7, r8, r9⟩ := upA_spec (m := m) (i := l.length) (by simp) hE hO hH h3
  refine ⟨⟨?_, r7, r8⟩, r4⟩
  intro j q1 q2
  rw [show (pushA l m n) = upA (l ++ [n]) m l.length from rfl] at q2 ⊢
  by_cases e : j = i'
  · rw [e]; exact r6 (by omega)
  · by_cases e2 : par j = i'
    · rw [e2]; exact r9 hKd j q1 q2 e2
    · exact r5.1 j q1 q2 e e2

theorem heap_top {l : List (Nd α)} (h : Heap l) : ∀ (i : Nat), i < l.length → ¬ lt (nd l i) (nd l 0) := by
  intro i
  induction i using Nat.strongRecOn with
  | _ i ih =>
    intro hi
    by_cases h0 : i = 0
    · rw [h0]; exact lt_irrefl _
    · have hp := par_lt (i := i) (by omega)
      exact nlt_trans (ih (par i) hp (by omega)) (h i (by omega) hi)
theorem top_spec {l : List (Nd α)} {m : List (Int × Int)} (h : Inv l m) : ∀ x ∈ l, ¬ lt x (nd l 0) := by
  intro x hx
  obtain ⟨i, hi, rfl⟩ := mem_nd hx
  exact heap_top h.1 i hi

theorem perm_last {l : List (Nd α)} {i : Nat} (hi : i < l.length - 1) : l.Perm (nd l i :: (l.take (l.length - 1)).set i (nd l (l.length - 1))) := by
  have e : l = l.take (l.length - 1) ++ [nd l (l.length - 1)] := by
    have h1 := (List.take_append_drop (l.length - 1) l).symm
    have h2 : l.drop (l.length - 1) = [nd l (l.length - 1)] := by
      rw [List.drop_eq_getElem_cons (by omega), nd_at (by omega), List.drop_of_length_le (by omega)]
    rw [h2] at h1
    exact h1
  have hl : i < (l.take (l.length - 1)).length := by rw [List.length_take]; omega
  have hq : (l.take (l.length - 1)).Perm (nd l i :: (l.take (l.length - 1)).eraseIdx i) := by
    have := (erase_perm hl).symm
    rw [← nd_at hl, nd_take (by omega)] at this
    exact this
  have hs : ((l.take (l.length - 1)).set i (nd l (l.length - 1))).Perm (nd l (l.length - 1) :: (l.take (l.length - 1)).eraseIdx i) := by
    have hl2 : i < ((l.take (l.length - 1)).set i (nd l (l.length - 1))).length := by simpa using hl
    have := (erase_perm hl2).symm
    rw [List.getElem_set_self, List.eraseIdx_set_eq] at this
    exact this
  refine (List.Perm.of_eq e).trans ?_
  refine (hq.append_right _).trans ?_
  rw [List.cons_append]
  refine List.Perm.cons _ ?_
  exact (List.perm_append_comm).trans hs.symm

theorem drop_up {l : List (Nd α)} {m : List (Int × Int)} {i : Nat} (h : Inv l m) (hlast : i < l.length - 1) :
    ∃ i' : Nat, getI (nd l (l.length - 1)).num (upA ((l.take (l.length - 1)).set i (nd l (l.length - 1))) (insI (nd l (l.length - 1)).num i (delI (nd l i).num m)) i).2 = some (i' : Int) ∧ i' < l.length - 1 ∧ (upA ((l.take (l.length - 1)).set i (nd l (l.length - 1))) (insI (nd l (l.length - 1)).num i (delI (nd l i).num m)) i).1.length = l.length - 1 := by
  have hi : i < l.length := by omega
  obtain ⟨h1, h2, h3⟩ := h
  have hO := once_places h2
  have lt' : (l.take (l.length - 1)).length = l.length - 1 := by rw [List.length_take]; omega
  have hp := perm_last hlast
  generalize hx : nd l (l.length - 1) = x at *
  generalize hL : (l.take (l.length - 1)).set i x = L at *
  have hLl : L.length = l.length - 1 := by rw [← hL, List.length_set, lt']
  have a0 : nd L i = x := by rw [← hL]; exact nd_set_same (by omega)
  have a1 : ∀ j, j ≠ i → j < L.length → nd L j = nd l j := fun j q1 q2 => by rw [← hL, nd_set_other (Ne.symm q1), nd_take (by omega)]
  have hOL : Once (nd l i :: L) := once_perm hp.symm hO
  have hOL' : Once L := by unfold Once at hOL ⊢; rw [List.map_cons, List.nodup_cons] at hOL; exact hOL.2
  have hnot : ∀ j, j < L.length → (nd L j).num ≠ (nd l i).num := by
    intro j hj e
    unfold Once at hOL
    rw [List.map_cons, List.nodup_cons] at hOL
    exact hOL.1 (List.mem_map.2 ⟨_, nd_mem hj, e⟩)
  have hE : Ex L i := by
    refine ⟨fun j q1 q2 q3 q4 => ?_, fun j q1 q2 q3 q4 => ?_⟩
    · have := par_lt q1
      rw [a1 j q3 q2, a1 (par j) q4 (by omega)]
      exact h1 j q1 (by omega)
    · have g1 := par_lt q1
      have g2 := par_lt q4
      rw [a1 j (by omega) q2, a1 (par i) (by omega) (by omega)]
      have f1 := h1 j q1 (by omega)
      rw [q3] at f1
      exact nlt_trans (h1 i q4 hi) f1
  have hK1 := once_ins (k := x.num) (v := i) (once_del (k := (nd l i).num) h3)
  have hH : Hole L (insI x.num i (delI (nd l i).num m)) i := by
    refine ⟨fun j q1 q2 => ?_, fun k v hk => ?_⟩
    · have n1 : (nd L j).num ≠ x.num := fun e => q2 (once_inj hOL' q1 (by omega) (by rw [a0]; exact e))
      rw [get_ins_other n1, get_del_other (hnot j q1), a1 j q2 q1]
      exact h2.1 j (by omega)
    · by_cases e : k = x.num
      · exact ⟨i, by omega, by rw [a0, e]⟩
      · rw [get_ins_other e] at hk
        by_cases e2 : k = (nd l i).num
        · rw [e2, get_del_same _ _ h3] at hk; cases hk
        · rw [get_del_other e2] at hk
          obtain ⟨j, q1, q2⟩ := h2.2 k v hk
          have q3 : j ≠ i := fun e3 => e2 (by rw [← q2, e3])
          have q4 : j ≠ l.length - 1 := fun e3 => e (by rw [← q2, e3, hx])
          exact ⟨j, by omega, by rw [a1 j q3 (by omega)]; exact q2⟩
  obtain ⟨i', r1, r2, r3, r4, r5, r6, r7, r8, r9⟩ := upA_spec (l := L) (by omega) hE hOL' hH hK1
  rw [a0] at r3
  exact ⟨i', by have := r7.1 i' (by omega); rw [r3] at this; exact this, by omega, by omega⟩
theorem drop_spec {l : List (Nd α)} {m : List (Int × Int)} {i : Nat} (h : Inv l m) (hi : i < l.length) : Inv (dropA l m (nd l i).num i).1 (dropA l m (nd l i).num i).2 ∧ l.Perm (nd l i :: (dropA l m (nd l i).num i).1) := by
  obtain ⟨h1, h2, h3⟩ := h
  have hO := once_places h2
  unfold dropA
  have lt' : (l.take (l.length - 1)).length = l.length - 1 := by rw [List.length_take]; omega
  by_cases hlast : i < l.length - 1
  · simp only [if_pos hlast]
    have hp := perm_last hlast
    generalize hx : nd l (l.length - 1) = x at *
    generalize hL : (l.take (l.length - 1)).set i x = L at *
    have hLl : L.length = l.length - 1 := by rw [← hL, List.length_set, lt']
    have a0 : nd L i = x := by rw [← hL]; exact nd_set_same (by omega)
    have a1 : ∀ j, j ≠ i → j < L.length → nd L j = nd l j := fun j q1 q2 => by rw [← hL, nd_set_other (Ne.symm q1), nd_take (by omega)]
    have hOL : Once (nd l i :: L) := once_perm hp.symm hO
    have hOL' : Once L := by unfold Once at hOL ⊢; rw [List.map_cons, List.nodup_cons] at hOL; exact hOL.2
    have hnot : ∀ j, j < L.length → (nd L j).num ≠ (nd l i).num := by
      intro j hj e
      unfold Once at hOL
      rw [List.map_cons, List.nodup_cons] at hOL
      exact hOL.1 (List.mem_map.2 ⟨_, nd_mem hj, e⟩)
    have hE : Ex L i := by
      refine ⟨fun j q1 q2 q3 q4 => ?_, fun j q1 q2 q3 q4 => ?_⟩
      · have := par_lt q1
        rw [a1 j q3 q2, a1 (par j) q4 (by omega)]
        exact h1 j q1 (by omega)
      · have g1 := par_lt q1
        have g2 := par_lt q4
        rw [a1 j (by omega) q2, a1 (par i) (by omega) (by omega)]
        have f1 := h1 j q1 (by omega)
        rw [q3] at f1
        exact nlt_trans (h1 i q4 hi) f1
    have hK1 := once_ins (k := x.num) (v := i) (once_del (k := (nd l i).num) h3)
    have hH : Hole L (insI x.num i (delI (nd l i).num m)) i := by
      refine ⟨fun j q1 q2 => ?_, fun k v hk => ?_⟩
      · have n1 : (nd L j).num ≠ x.num := fun e => q2 (once_inj hOL' q1 (by omega) (by rw [a0]; exact e))
        rw [get_ins_other n1, get_del_other (hnot j q1), a1 j q2 q1]
        exact h2.1 j (by omega)
      · by_cases e : k = x.num
        · exact ⟨i, by omega, by rw [a0, e]⟩
        · rw [get_ins_other e] at hk
          by_cases e2 : k = (nd l i).num
          · rw [e2, get_del_same _ _ h3] at hk; cases hk
          · rw [get_del_other e2] at hk
            obtain ⟨j, q1, q2⟩ := h2.2 k v hk
            have q3 : j ≠ i := fun e3 => e2 (by rw [← q2, e3])
            have q4 : j ≠ l.length - 1 := fun e3 => e (by rw [← q2, e3, hx])
            exact ⟨j, by omega, by rw [a1 j q3 (by omega)]; exact q2⟩
    obtain ⟨i', r1, r2, r3, r4, r5, r6, r7, r8, r9⟩ := upA_spec (l := L) (by omega) hE hOL' hH hK1
    generalize upA L (insI x.num i (delI (nd l i).num m)) i = q at *
    rw [a0] at r3
    have hg : getI x.num q.2 = some (i' : Int) := by rw [← r3]; exact r7.1 i' (by omega)
    rw [hg]
    have hOq := once_places r7
    have := downA_spec (l := q.1) (m := q.2) (i := i') (by omega) r5 r6 hOq ⟨fun j q1 _ => r7.1 j q1, r7.2⟩ r8
    refine ⟨this.2, hp.trans (.cons _ (this.1.trans r4).symm)⟩
  · simp only [if_neg hlast]
    have hi' : i = l.length - 1 := by omega
    have e : l = l.take (l.length - 1) ++ [nd l i] := by
      have q1 := (List.take_append_drop (l.length - 1) l).symm
      have q2 : l.drop (l.length - 1) = [nd l i] := by
        rw [List.drop_eq_getElem_cons (by omega), nd_at hi, List.drop_of_length_le (by omega)]
        simp [hi']
      rw [q2] at q1
      exact q1
    refine ⟨⟨fun j q1 q2 => ?_, ⟨fun j q1 => ?_, fun k v hk => ?_⟩, once_del h3⟩, (List.Perm.of_eq e).trans List.perm_append_comm⟩
    · have := par_lt q1
      rw [nd_take (by omega), nd_take (by omega)]
      exact h1 j q1 (by omega)
    · rw [nd_take (by omega), get_del_other]
      · exact h2.1 j (by omega)
      · intro e2
        have := once_inj hO (by omega) hi e2
        omega
    · by_cases e2 : k = (nd l i).num
      · rw [e2, get_del_same _ _ h3] at hk; cases hk
      · rw [get_del_other e2] at hk
        obtain ⟨j, q1, q2⟩ := h2.2 k v hk
        have q3 : j ≠ i := fun e3 => e2 (by rw [← q2, e3])
        exact ⟨j, by omega, by rw [nd_take (by omega)]; exact q2⟩
theorem find_spec {l : List (Nd α)} {m : List (Int × Int)} {k v : Int} (h : Inv l m) (hg : getI k m = some v) : ∃ i : Nat, v = i ∧ i < l.length ∧ (nd l i).num = k := by
  obtain ⟨j, q1, q2⟩ := h.2.1.2 k v hg
  have := h.2.1.1 j q1
  rw [q2, hg] at this
  exact ⟨j, Option.some.inj this, q1, q2⟩
theorem find_none {l : List (Nd α)} {m : List (Int × Int)} {k : Int} (h : Inv l m) (hg : getI k m = none) : ∀ x ∈ l, x.num ≠ k := by
  intro x hx e
  obtain ⟨i, hi, rfl⟩ := mem_nd hx
  have := h.2.1.1 i hi
  rw [e, hg] at this
  cases this
theorem inv_nil : Inv ([] : List (Nd α)) [] := ⟨fun j _ h => absurd h (Nat.not_lt_zero _), ⟨fun j h => absurd h (Nat.not_lt_zero _), fun k v h => by cases h⟩, List.nodup_nil⟩
end Go.Proofs.Ytceopcfmhidjlaa.Hp

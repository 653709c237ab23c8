/- The document's parts and table, plain. Conditions: none. -/
import Derived.Test.YtdlikjfffdpmiaaProperCP
import Derived.Test.YtdlikjfffdpmiaaQProperx12
import Derived.Test.YtdlikjfffdpmiaaQProperx14
set_option linter.unusedVariables false
set_option linter.unusedSimpArgs false
namespace Go.Proofs.Ytdlikjfffdpmiaa.CProper
open Go.RowKit Go.Proofs.Ytdlikjfffdpmiaa.QProper Go.Proofs.YtdlikjfffdpmiaaW.PrintWords Go.Proofs.YtdlikjfffdpmiaaW.PrintLast Go.Proofs.YtdlikjfffdpmiaaW.PrintMore

/-- What the document's parts tell. -/
def told (q : Int × Bool) : Int := if q.2 = true then -1 else q.1
theorem parts_l0 (c : List Int) (fs : List S34) (ts : List S58) (hf : fs.length ≤ 256) : ∀ (r : List S34) (j : Nat) (at_ : Int) (k : Nat), fs.drop j = r → r.length < k →
    rotaref08_parts.l0 k at_ (j : Int) c fs ts = some (told (fparts c.length fs.length r at_ j)) := by
  intro r
  induction r with
  | nil =>
    intro j at_ k hd hk
    obtain ⟨k, rfl⟩ : ∃ m, k = m + 1 := ⟨k - 1, by omega⟩
    have := drop_nil hd
    simp only [rotaref08_parts.l0, fparts]
    rw [if_neg (by omega)]
    by_cases h : (fs.length : Int) = 0
    · rw [if_pos h]; simp [h, told]
    · rw [if_neg h]
      have h' : decide ((0 : Int) < fs.length) = true := decide_eq_true (by omega)
      rw [h', Bool.true_and]
      by_cases h2 : at_ = c.length
      · rw [if_pos h2, decide_eq_true h2]; rfl
      · rw [if_neg h2, decide_eq_false h2]; rfl
  | cons f r ih =>
    intro j at_ k hd hk
    obtain ⟨hj, hr, hd'⟩ := rd34_drop hd
    simp only [List.length_cons] at hk
    obtain ⟨k, rfl⟩ : ∃ m, k = m + 1 := ⟨k - 1, by omega⟩
    have ih' := ih (j + 1) f.f1 k hd' (by omega)
    simp only [rotaref08_parts.l0]
    rw [if_pos (by omega), if_pos (by omega), hr, wrap1 (by omega), ih']
    simp only [fparts]
    by_cases h1 : f.f0 = at_
    · by_cases h2 : f.f1 ≤ f.f0
      · rw [if_pos h1, if_pos h2, if_neg (by omega)]; rfl
      · by_cases h3 : f.f1 > c.length
        · rw [if_pos h1, if_neg h2, if_pos h3, if_neg (by omega)]; rfl
        · rw [if_pos h1, if_neg h2, if_neg h3, if_pos (by omega)]
          simp
    · rw [if_neg h1, if_neg (by omega)]; rfl
theorem parts_f (c : List Int) (fs : List S34) (ts : List S58) (hf : fs.length ≤ 256) (k : Nat) (hk : 257 ≤ k) :
    rotaref08_parts.f k c fs ts = some (told (fparts c.length fs.length fs 0 0)) :=
  parts_l0 c fs ts hf fs 0 0 k rfl (by omega)

theorem rd87_drop {l r : List S87} {s : S87} {i : Nat} (h : l.drop i = s :: r) : i < l.length ∧ rd_T87 l (i : Int) = s ∧ l.drop (i + 1) = r := by
  have hi : i < l.length := by
    rcases Nat.lt_or_ge i l.length with h1 | h1
    · exact h1
    · rw [List.drop_eq_nil_of_le h1] at h; cases h
  rw [List.drop_eq_getElem_cons hi] at h
  injection h with h1 h2
  refine ⟨hi, ?_, h2⟩
  simp [rd_T87, List.getD, List.getElem?_eq_getElem hi, h1]
theorem rd58_drop {l r : List S58} {s : S58} {i : Nat} (h : l.drop i = s :: r) : i < l.length ∧ rd_T58 l (i : Int) = s ∧ l.drop (i + 1) = r := by
  have hi : i < l.length := by
    rcases Nat.lt_or_ge i l.length with h1 | h1
    · exact h1
    · rw [List.drop_eq_nil_of_le h1] at h; cases h
  rw [List.drop_eq_getElem_cons hi] at h
  injection h with h1 h2
  refine ⟨hi, ?_, h2⟩
  simp [rd_T58, List.getD, List.getElem?_eq_getElem hi, h1]

theorem refReg (n : Int) : rotaref08_register.f n = some (reg n) := by
  unfold rotaref08_register.f reg
  by_cases h : 0 ≤ n
  · simp [h]
  · simp [h]
theorem bad_step (f : S87) (q : Bool) :
    ((some (reg f.f1)).bind fun t149 => (if t149 = true then ((some (reg f.f2)).bind fun t150 => (if t150 = true then ((some (reg f.f3)).bind fun t151 => (if t151 = true then (if f.f0 = true then (if f.f3 = 0 then (some (!q)) else (some false)) else (some (!q))) else (some false))) else (some false))) else (some false))) = some (!(badCase f || q)) := by
  obtain ⟨b, x, y, z⟩ := f
  simp only [badCase, Option.bind_some]
  cases reg x
  · rfl
  cases reg y
  · rfl
  cases reg z
  · rfl
  cases b
  · rfl
  by_cases h : z = 0
  · subst h; rfl
  · rw [if_pos rfl, if_pos rfl, if_pos rfl, if_pos rfl, if_neg h, beq_eq_false_iff_ne.mpr h]; rfl
theorem table_l0 (l : List S87) (b : Bool) (hl : l.length ≤ 16) : ∀ (r : List S87) (j : Nat) (k : Nat), l.drop j = r → r.length < k → rotaref08_table.l0 k (j : Int) l b = some (!r.any badCase) := by
  intro r
  induction r with
  | nil =>
    intro j k hd hk
    obtain ⟨k, rfl⟩ : ∃ m, k = m + 1 := ⟨k - 1, by omega⟩
    have := drop_nil hd
    simp only [rotaref08_table.l0]
    rw [if_neg (by omega)]
    rfl
  | cons f r ih =>
    intro j k hd hk
    obtain ⟨hj, hr, hd'⟩ := rd87_drop hd
    simp only [List.length_cons] at hk
    obtain ⟨k, rfl⟩ : ∃ m, k = m + 1 := ⟨k - 1, by omega⟩
    have ih' := ih (j + 1) k hd' (by omega)
    simp only [rotaref08_table.l0]
    rw [if_pos (by omega), if_pos (by omega), hr, wrap1 (by omega), ih']
    simp only [refReg]
    rw [bad_step f (r.any badCase), List.any_cons]
theorem table_f (t : S58) (k : Nat) (hk : 17 ≤ k) : rotaref08_table.f k t.f0 t.f1 = some (!badTable t) := by
  unfold rotaref08_table.f badTable
  by_cases h : (t.f0.length : Int) > 16
  · rw [if_pos h, decide_eq_true h]; rfl
  · rw [if_neg h, decide_eq_false (show ¬ 16 < (t.f0.length : Int) from h), Bool.false_or]
    exact table_l0 t.f0 t.f1 (by omega) t.f0 0 k rfl (by omega)

/-! ### which function a word is of -/
def inn : List S34 → Int → Int → Int
  | [], _, _ => -1
  | f :: r, i, o => if f.f0 ≤ i ∧ i < f.f1 then o else inn r i (o + 1)
theorem inn_is : ∀ (l : List S34) (i o : Int), inn l i o = -1 ∨ ∃ (j : Nat) (f : S34), inn l i o = o + j ∧ l[j]? = some f ∧ f.f0 ≤ i ∧ i < f.f1 := by
  intro l
  induction l with
  | nil => intro i o; exact .inl rfl
  | cons f r ih =>
    intro i o
    simp only [inn]
    by_cases c : f.f0 ≤ i ∧ i < f.f1
    · rw [if_pos c]; exact .inr ⟨0, f, by simp, rfl, c.1, c.2⟩
    · rw [if_neg c]
      rcases ih i (o + 1) with h | ⟨j, g, h, hg, h0, h1⟩
      · exact .inl h
      · exact .inr ⟨j + 1, g, by omega, hg, h0, h1⟩
theorem chain_ge (n : Int) : ∀ (l : List S34) (a : Int), Chain n l a → ∀ f ∈ l, a ≤ f.f0 ∧ f.f0 < f.f1 ∧ f.f1 ≤ n := by
  intro l
  induction l with
  | nil => intro a h f hf; cases hf
  | cons g r ih =>
    intro a h f hf
    obtain ⟨e0, e1, e2, h'⟩ := h
    rcases List.mem_cons.mp hf with rfl | hf
    · omega
    · have := ih _ h' f hf; omega
theorem inn_at (n : Int) : ∀ (l : List S34) (a : Int), Chain n l a → ∀ (j : Nat) (f : S34) (i o : Int), l[j]? = some f → f.f0 ≤ i → i < f.f1 → inn l i o = o + j := by
  intro l
  induction l with
  | nil => intro a h j f i o hj; cases hj
  | cons g r ih =>
    intro a h j f i o hj h0 h1
    obtain ⟨e0, e1, e2, h'⟩ := h
    cases j with
    | zero =>
      simp only [List.getElem?_cons_zero, Option.some.injEq] at hj
      subst hj
      simp only [inn]
      rw [if_pos ⟨h0, h1⟩]; simp
    | succ j =>
      simp only [List.getElem?_cons_succ] at hj
      have hm := List.mem_of_getElem? hj
      have := chain_ge n r _ h' f hm
      simp only [inn]
      rw [if_neg (by omega), ih _ h' j f i (o + 1) hj h0 h1]
      omega
theorem chain_has (n : Int) : ∀ (l : List S34) (a : Int), Chain n l a → ∀ i, a ≤ i → i < n → ∃ (j : Nat) (f : S34), l[j]? = some f ∧ f.f0 ≤ i ∧ i < f.f1 := by
  intro l
  induction l with
  | nil => intro a h i h0 h1; have : a = n := h; omega
  | cons g r ih =>
    intro a h i h0 h1
    obtain ⟨e0, e1, e2, h'⟩ := h
    by_cases c : i < g.f1
    · exact ⟨0, g, rfl, by omega, c⟩
    · obtain ⟨j, f, hj, x, y⟩ := ih _ h' i (by omega) h1
      exact ⟨j + 1, f, hj, x, y⟩
/-- What is wrong with word i. -/
def gW (c : List Int) (fs : List S34) (ts : List S58) (i : Int) : Int :=
  W fs.length ts.length (rd c i) (rd_T34 fs (inn fs i 0)).f0 (rd_T34 fs (inn fs i 0)).f1 i
theorem rd34_at {l : List S34} {j : Nat} {f : S34} (h : l[j]? = some f) : rd_T34 l (j : Int) = f := by
  unfold rd_T34
  rw [List.getD_eq_getElem?_getD, Int.toNat_natCast, h]; rfl
theorem gW_in (c : List Int) (fs : List S34) (ts : List S58) (h : Chain c.length fs 0) : ∀ f ∈ fs, ∀ i, f.f0 ≤ i → i < f.f1 → gW c fs ts i = W fs.length ts.length (rd c i) f.f0 f.f1 i := by
  intro f hf i h0 h1
  obtain ⟨j, hj, e⟩ := List.getElem_of_mem hf
  have hj' : fs[j]? = some f := by rw [List.getElem?_eq_getElem hj, e]
  have := inn_at _ fs 0 h j f i 0 hj' h0 h1
  unfold gW
  rw [this, Int.zero_add, rd34_at hj']
end Go.Proofs.Ytdlikjfffdpmiaa.CProper

/- A program that may be, plain: what Check's OK says of its functions and words. Conditions: none. -/
import Derived.Test.YtdlikjfffdpmiaaProperCA
import Derived.Test.YtdlikjfffdpmiaaProperIn
import Derived.Test.YtdlikjfffdpmiaaProperNx
set_option linter.unusedVariables false
set_option linter.unusedSimpArgs false
namespace Go.Proofs.Ytdlikjfffdpmiaa.CProper
open Go.RowKit Go.Proofs.Ytdlikjfffdpmiaa.QProper Go.Proofs.YtdlikjfffdpmiaaW.PrintWords Go.Proofs.YtdlikjfffdpmiaaW.PrintLast Go.Proofs.YtdlikjfffdpmiaaW.PrintMore

theorem ite_chk {α : Type} {e : Int} {a b : α} (h : e = 0) : (if e ≠ 0 then a else b) = b := by simp [h]
structure Fine (c : List Int) (fs : List S34) (ts : List S58) : Prop where
  nc : c.length ≤ 4096
  nf : fs.length ≤ 256
  nt : ts.length ≤ 256
  pos : 0 < fs.length
  chain : Chain c.length fs 0
  chk : checkAll (gW c fs ts) c fs ts = (0, 0)
  word : ∀ (j : Nat) (f : S34) (i : Int), fs[j]? = some f → f.f0 ≤ i → i < f.f1 → W fs.length ts.length (rd c i) f.f0 f.f1 i = 0

theorem fw_zero (g : Int → Int) : ∀ (m : Nat) (a : Int), (fw g m a).2 = 0 → fw g m a = (0, 0) ∧ ∀ i, a ≤ i → i < a + m → g i = 0 := by
  intro m
  induction m with
  | zero => intro a _; exact ⟨rfl, fun i h0 h1 => by omega⟩
  | succ m ih =>
    intro a h
    unfold fw at h ⊢
    by_cases hg : g a = 0
    · rw [if_pos hg] at h ⊢
      obtain ⟨h1, h2⟩ := ih _ h
      refine ⟨h1, fun i h0 h3 => ?_⟩
      by_cases e : i = a
      · rw [e]; exact hg
      · exact h2 i (by omega) (by omega)
    · rw [if_neg hg] at h; exact absurd h hg

theorem fparts_len (n tot : Int) : ∀ (r : List S34) (at_ j : Int), (fparts n tot r at_ j).2 = true → 0 < tot := by
  intro r
  induction r with
  | nil => intro at_ j h; simp [fparts] at h; exact h.1
  | cons f r ih =>
    intro at_ j h
    unfold fparts at h
    by_cases c : f.f0 = at_ ∧ at_ < f.f1 ∧ f.f1 ≤ n
    · rw [if_pos c] at h; exact ih _ _ h
    · rw [if_neg c] at h; cases h

theorem fine_of {c : List Int} {fs : List S34} {ts : List S58} (h : (checkAll (gW c fs ts) c fs ts).2 = 0) : checkAll (gW c fs ts) c fs ts = (0, 0) ∧ Fine c fs ts := by
  unfold checkAll at h ⊢
  by_cases c1 : (c.length : Int) > 4096 ∨ (fs.length : Int) > 256 ∨ (ts.length : Int) > 256
  · rw [if_pos c1] at h; exact absurd h (by decide)
  rw [if_neg c1] at h ⊢
  cases hp : (fparts c.length fs.length fs 0 0).2 with
  | false => rw [hp, if_pos rfl] at h; exact absurd h (by simp)
  | true =>
    rw [hp, if_neg (by decide)] at h
    rw [if_neg (by decide)]
    cases ht : ts.findIdx? badTable with
    | some i => rw [ht] at h; exact absurd h (by simp)
    | none =>
      rw [ht] at h
      simp only at h ⊢
      have hch := chain_of _ _ _ _ _ hp
      obtain ⟨h1, h2⟩ := fw_zero _ _ _ h
      refine ⟨h1, by omega, by omega, by omega, by have := fparts_len _ _ _ _ _ hp; omega, hch, ?_, fun j f i hj h0 h3 => ?_⟩
      · unfold checkAll; rw [if_neg c1, hp, if_neg (by decide), ht]; exact h1
      have hf : f ∈ fs := List.mem_of_getElem? hj
      rw [← gW_in c fs ts hch f hf i h0 h3]
      have := chain_ge _ fs 0 hch f hf
      exact h2 i (by omega) (by omega)

theorem W_zero {nf nt x b e i : Int} (h : W nf nt x b e i = 0) :
    (dec x).2.2.2.2.2 = 0 ∧ (jmp (dec x).1 = true → b ≤ (dec x).2.2.2.2.1 ∧ (dec x).2.2.2.2.1 < e) ∧ ((dec x).1 = 20 ∨ (dec x).1 = 22 → (dec x).2.2.2.2.1 < nf) ∧ ((dec x).1 = 34 → (dec x).2.2.2.2.1 < nt) ∧ (i = e - 1 → endo (dec x).1 = true) := by
  unfold W at h
  by_cases h1 : (dec x).2.2.2.2.2 ≠ 0
  · rw [if_pos h1] at h; exact absurd h (by decide)
  rw [if_neg h1] at h
  by_cases h2 : jmp (dec x).1 = true ∧ ((dec x).2.2.2.2.1 < b ∨ (dec x).2.2.2.2.1 ≥ e)
  · rw [if_pos h2] at h; exact absurd h (by decide)
  rw [if_neg h2] at h
  unfold W2 at h
  by_cases h3 : ((dec x).1 = 20 ∨ (dec x).1 = 22) ∧ (dec x).2.2.2.2.1 ≥ nf
  · rw [if_pos h3] at h; exact absurd h (by decide)
  rw [if_neg h3] at h
  by_cases h4 : (dec x).1 = 34 ∧ (dec x).2.2.2.2.1 ≥ nt
  · rw [if_pos h4] at h; exact absurd h (by decide)
  rw [if_neg h4] at h
  by_cases h5 : decide (i = e - 1) = true ∧ endo (dec x).1 = false
  · rw [if_pos h5] at h; exact absurd h (by decide)
  refine ⟨by simpa using h1, fun hj => ?_, fun hc => ?_, fun hc => ?_, fun hc => ?_⟩
  · have : ¬ ((dec x).2.2.2.2.1 < b ∨ (dec x).2.2.2.2.1 ≥ e) := fun hh => h2 ⟨hj, hh⟩
    omega
  · have : ¬ (dec x).2.2.2.2.1 ≥ nf := fun hh => h3 ⟨hc, hh⟩
    omega
  · have : ¬ (dec x).2.2.2.2.1 ≥ nt := fun hh => h4 ⟨hc, hh⟩
    omega
  · cases he : endo (dec x).1 with
    | true => rfl
    | false => exact absurd ⟨decide_eq_true hc, he⟩ h5

/-! ### the function of a word -/
theorem inn_firstIn : ∀ (l : List S34) (i o : Int), inn l i o = match l.findIdx? (inF i) with | some j => o + j | none => -1 := by
  intro l
  induction l with
  | nil => intro i o; rfl
  | cons f r ih =>
    intro i o
    unfold inn
    rw [List.findIdx?_cons]
    by_cases h : f.f0 ≤ i ∧ i < f.f1
    · have : inF i f = true := by simp [inF, h.1, h.2]
      rw [if_pos h, this]; simp
    · have : inF i f = false := by
        unfold inF
        by_cases h0 : f.f0 ≤ i
        · have h1 : ¬ i < f.f1 := fun hh => h ⟨h0, hh⟩
          simp [h0, h1]
        · simp [h0]
      rw [if_neg h, this, ih]
      cases r.findIdx? (inF i) with
      | none => simp
      | some j =>
        have e : ∀ a b : Int, a + 1 + b = a + (b + 1) := fun a b => by omega
        simpa using e o j
theorem firstIn_inn (l : List S34) (i : Int) : firstIn i l = inn l i 0 := by
  rw [inn_firstIn]
  unfold firstIn
  cases l.findIdx? (inF i) with
  | none => rfl
  | some j => simp
theorem inn_out {n : Int} {fs : List S34} (h : Chain n fs 0) {i : Int} (hi : i < 0 ∨ n ≤ i) : inn fs i 0 = -1 := by
  rcases inn_is fs i 0 with h1 | ⟨j, f, _, hj, h0, h1⟩
  · exact h1
  · have := chain_ge n fs 0 h f (List.mem_of_getElem? hj)
    omega
theorem inn_has {n : Int} {fs : List S34} (h : Chain n fs 0) {i : Int} (h0 : 0 ≤ i) (h1 : i < n) : ∃ (j : Nat) (f : S34), inn fs i 0 = j ∧ fs[j]? = some f ∧ f.f0 ≤ i ∧ i < f.f1 := by
  obtain ⟨j, f, hj, h2, h3⟩ := chain_has n fs 0 h i h0 h1
  exact ⟨j, f, by rw [inn_at n fs 0 h j f i 0 hj h2 h3]; omega, hj, h2, h3⟩

theorem in_ok (c : List Int) (fs : List S34) (ts : List S58) (hc : ∀ x ∈ c, 0 ≤ x ∧ x < 4294967296) (at_ : Int) (k : Nat) (hk : 20000 ≤ k) :
    proper_In.f k c fs ts at_ = some (if (checkAll (gW c fs ts) c fs ts).2 ≠ 0 then (0, (checkAll (gW c fs ts) c fs ts).2) else if at_ < 0 ∨ (c.length : Int) ≤ at_ then (0, 1) else (inn fs at_ 0, 0)) := by
  unfold proper_In.f
  rw [check_f (gW c fs ts) c fs ts hc (fun _ h => gW_in c fs ts h) k hk]
  simp only [Option.bind_some]
  by_cases h : (checkAll (gW c fs ts) c fs ts).2 = 0
  · obtain ⟨e, F⟩ := fine_of h
    rw [e]
    simp only [if_true, ne_eq, not_true_eq_false, if_false]
    rw [firstIn_inn]
    by_cases ha : at_ < 0 ∨ (c.length : Int) ≤ at_
    · rw [inn_out F.chain ha]; simp [ha]
    · obtain ⟨j, f, e1, _⟩ := inn_has F.chain (show 0 ≤ at_ by omega) (by omega)
      rw [if_neg ha, e1, if_neg (by omega)]
  · simp [h]

/-! ### where a word goes on -/
def nexts (x i : Int) : List Int :=
  if (dec x).1 = 17 then [(dec x).2.2.2.2.1] else if endo (dec x).1 = true then [] else if jmp (dec x).1 = false ∨ (dec x).2.2.2.2.1 = i + 1 then [i + 1]
  else if (dec x).2.2.2.2.1 < i + 1 then [(dec x).2.2.2.2.1, i + 1] else [i + 1, (dec x).2.2.2.2.1]

theorem nexts_len (x i : Int) : (nexts x i).length ≤ 2 := by
  unfold nexts
  split
  · simp
  · split
    · simp
    · split
      · simp
      · split <;> simp
theorem compact_one (a : Int) : Lib.compact (sorted [a]) = [a] := by simp [sorted, Lib.compact, Lib.compactUpTo, Lib.keeps]
theorem compact_two (a b : Int) : Lib.compact (sorted [a, b]) = if a = b then [a] else if a < b then [a, b] else [b, a] := by
  have hs : sorted [a, b] = if a ≤ b then [a, b] else [b, a] := by
    unfold sorted
    by_cases h : a ≤ b
    · rw [if_pos h]; exact List.mergeSort_of_pairwise (by simp [h])
    · rw [if_neg h]
      have : [a, b].Perm [b, a] := List.Perm.swap _ _ _
      have p := (List.mergeSort_perm [a, b] (fun x y => decide (x ≤ y))).trans this
      refine List.Perm.eq_of_pairwise (le := fun x y : Int => x ≤ y) (fun x y _ _ h1 h2 => Int.le_antisymm h1 h2) ?_ (by simp; omega) p
      have := List.pairwise_mergeSort (le := fun x y : Int => decide (x ≤ y)) (by intro a b c; simp; omega) (by intro a b; simp; omega) [a, b]
      exact this.imp (by simp)
  rw [hs]
  by_cases e : a = b
  · subst e; rw [if_pos rfl, if_pos (Int.le_refl _)]; simp [Lib.compact, Lib.compactUpTo, Lib.keeps, List.range, List.range.loop]
  · by_cases h : a ≤ b
    · rw [if_pos h, if_neg e, if_pos (by omega)]; simp [Lib.compact, Lib.compactUpTo, Lib.keeps, List.range, List.range.loop, show ¬ b = a by omega]
    · rw [if_neg h, if_neg e, if_neg (by omega)]; simp [Lib.compact, Lib.compactUpTo, Lib.keeps, List.range, List.range.loop, e]

theorem next_ok (c : List Int) (fs : List S34) (ts : List S58) (hc : ∀ x ∈ c, 0 ≤ x ∧ x < 4294967296) (hn : c.length ≤ 4096) (i : Int) (h0 : 0 ≤ i) (h1 : i < c.length) (k : Nat) (hk : 9 ≤ k) :
    proper_next.f k c fs ts i = some (nexts (rd c i) i) := by
  have hx : 0 ≤ rd c i ∧ rd c i < 4294967296 := by
    apply hc
    unfold rd
    rw [List.getD_eq_getElem?_getD, List.getElem?_eq_getElem (show i.toNat < c.length by omega)]
    exact List.getElem_mem _
  obtain ⟨k, rfl⟩ : ∃ m, k = m + 9 := ⟨k - 9, by omega⟩
  unfold proper_next.f nexts
  rw [if_pos ⟨h0, h1, by omega⟩, Decode_f k (rd c i) hx.1 hx.2]
  simp only [Option.bind_some, jumps_f, ends_f]
  generalize (dec (rd c i)).1 = op
  generalize (dec (rd c i)).2.2.2.2.1 = imm
  congr 1
  unfold nextL nextB
  by_cases h17 : op = 17
  · subst h17
    have : jmp 17 = true := by decide
    have e2 : endo 17 = true := by decide
    rw [this, e2]; simpa using compact_one imm
  rw [if_neg h17]
  cases he : endo op with
  | true =>
    have : jmp op = false := by
      simp only [endo, jmp, Bool.or_eq_true, decide_eq_true_eq] at he ⊢
      simp only [Bool.or_eq_false_iff, decide_eq_false_iff_not]
      omega
    rw [this]; simp [sorted, Lib.compact, Lib.compactUpTo]
  | false =>
    cases hj : jmp op with
    | false => simpa using compact_one (i + 1)
    | true =>
      simp only [if_true, Bool.false_eq_true, if_false, List.cons_append, List.nil_append, false_or, reduceCtorEq]
      rw [compact_two]
      by_cases e : imm = i + 1
      · rw [if_pos e, if_pos e, e]
      · rw [if_neg e, if_neg e]
end Go.Proofs.Ytdlikjfffdpmiaa.CProper

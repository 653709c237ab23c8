/- What the program's Check computes, as one plain scan. Conditions: the words are uint32, the functions' numbers are ints. -/
import Derived.Test.YtdlikjfffdpmiaaProperCW
import Derived.Test.YtdlikjfffdpmiaaQProperx11
set_option linter.unusedVariables false
set_option linter.unusedSimpArgs false
namespace Go.Proofs.Ytdlikjfffdpmiaa.CProper
open Go.RowKit Go.Proofs.Ytdlikjfffdpmiaa.QProper Go.Proofs.YtdlikjfffdpmiaaW.PrintWords Go.Proofs.YtdlikjfffdpmiaaW.PrintLast Go.Proofs.YtdlikjfffdpmiaaW.PrintMore

def jmp (op : Int) : Bool := decide (op = 17) || decide (op = 18) || decide (op = 19)
def endo (op : Int) : Bool := decide (op = 17) || decide (op = 21) || decide (op = 24) || decide (op = 58)
theorem jumps_f (op : Int) : proper_jumps.f op = some (jmp op) := by
  unfold proper_jumps.f jmp
  by_cases h1 : op = 17
  · simp [h1]
  by_cases h2 : op = 18
  · simp [h2]
  simp [h1, h2, beqd]
theorem ends_f (op : Int) : proper_ends.f op = some (endo op) := by
  unfold proper_ends.f endo
  by_cases h1 : op = 17
  · simp [h1]
  by_cases h2 : op = 21
  · simp [h2]
  by_cases h3 : op = 24
  · simp [h3]
  simp [h1, h2, h3, beqd]
/-- What is wrong with a word behind its jump. -/
def W2 (nf nt op imm : Int) (last : Bool) : Int :=
  if (op = 20 ∨ op = 22) ∧ imm ≥ nf then 81 else if op = 34 ∧ imm ≥ nt then 83 else if last = true ∧ endo op = false then 84 else 0
/-- What is wrong with a word of a function from b to e. -/
def W (nf nt x b e i : Int) : Int :=
  if (dec x).2.2.2.2.2 ≠ 0 then 80 else if jmp (dec x).1 = true ∧ ((dec x).2.2.2.2.1 < b ∨ (dec x).2.2.2.2.1 ≥ e) then 82 else W2 nf nt (dec x).1 (dec x).2.2.2.2.1 (decide (i = e - 1))

theorem wrong_j0 (k : Nat) (i : Int) (far : Bool) (c : List Int) (fs : List S34) (ts : List S58) (b e op A B C imm : Int) (he : wrap64 (e - 1) = e - 1) :
    proper_wrong.j0 (k + 5) i far c fs ts b e op A B C imm = some (if far = true then 82 else W2 fs.length ts.length op imm (decide (i = e - 1))) := by
  simp only [proper_wrong.j0]
  cases far with
  | true => simp
  | false =>
    have hj2 : ∀ big, proper_wrong.j2 (k + 3) i big b e op A B C imm = some (if big = true then 83 else if decide (i = e - 1) = true ∧ endo op = false then 84 else 0) := by
      intro big
      simp only [proper_wrong.j2, he, ends_f]
      cases big with
      | true => simp
      | false =>
        by_cases h : i = e - 1
        · cases hE : endo op <;> simp [h]
        · simp [h]
    have hj1 : ∀ big, proper_wrong.j1 (k + 4) i big c fs ts b e op A B C imm = some (if big = true then 81 else if op = 34 ∧ imm ≥ ts.length then 83 else if decide (i = e - 1) = true ∧ endo op = false then 84 else 0) := by
      intro big
      simp only [proper_wrong.j1, hj2]
      cases big with
      | true => simp
      | false =>
        by_cases h : op = 34
        · simp [h]
        · simp [h]
    rw [if_neg (by decide)]
    simp only [hj1, W2]
    by_cases h1 : op = 20
    · simp [h1]
    · by_cases h2 : op = 22
      · simp [h2]
      · simp [h1, h2]

theorem wrong_f (k : Nat) (c : List Int) (fs : List S34) (ts : List S58) (i b e : Int) (hc : ∀ x ∈ c, 0 ≤ x ∧ x < 4294967296) (h0 : 0 ≤ i) (h1 : i < c.length) (he : -9223372036854775808 < e ∧ e ≤ 9223372036854775807) :
    proper_wrong.f (k + 9) c fs ts i b e = some (W fs.length ts.length (rd c i) b e i) := by
  have hx : 0 ≤ rd c i ∧ rd c i < 4294967296 := by
    apply hc
    unfold rd
    rw [List.getD_eq_getElem?_getD, List.getElem?_eq_getElem (show i.toNat < c.length by omega)]
    exact List.getElem_mem _
  have hw : wrap64 (e - 1) = e - 1 := IntWalk.wrap64_in _ (by omega)
  unfold proper_wrong.f W
  rw [if_pos h0, if_pos h1, Decode_f k _ hx.1 hx.2]
  generalize dec (rd c i) = d
  obtain ⟨op, A, B, C, imm, er⟩ := d
  simp only [Option.bind_some, jumps_f]
  by_cases h : er = 0
  · simp only [h, if_true, ne_eq, not_true_eq_false, if_false]
    cases hj : jmp op with
    | false => simp [wrong_j0 (k + 4) i _ c fs ts b e op A B C imm hw]
    | true =>
      by_cases hb : imm < b
      · simp [hb, wrong_j0 (k + 4) i _ c fs ts b e op A B C imm hw]
      · by_cases hE : imm ≥ e
        · simp [hb, hE, wrong_j0 (k + 4) i _ c fs ts b e op A B C imm hw]
        · simp [hb, hE, wrong_j0 (k + 4) i _ c fs ts b e op A B C imm hw]
  · simp [h]

/-! ### the functions part the code -/
def fparts (n tot : Int) : List S34 → Int → Int → Int × Bool
  | [], at_, _ => (tot, decide (0 < tot) && decide (at_ = n))
  | f :: r, at_, j => if f.f0 = at_ ∧ at_ < f.f1 ∧ f.f1 ≤ n then fparts n tot r f.f1 (j + 1) else (j, false)
def Chain (n : Int) : List S34 → Int → Prop
  | [], at_ => at_ = n
  | f :: r, at_ => f.f0 = at_ ∧ at_ < f.f1 ∧ f.f1 ≤ n ∧ Chain n r f.f1
theorem chain_of (n tot : Int) : ∀ (r : List S34) (at_ j : Int), (fparts n tot r at_ j).2 = true → Chain n r at_ := by
  intro r
  induction r with
  | nil => intro at_ j h; simp [fparts] at h; exact h.2
  | cons f r ih =>
    intro at_ j h
    unfold fparts at h
    by_cases c : f.f0 = at_ ∧ at_ < f.f1 ∧ f.f1 ≤ n
    · rw [if_pos c] at h
      exact ⟨c.1, c.2.1, c.2.2, ih _ _ h⟩
    · rw [if_neg c] at h; cases h
theorem rd34_drop {l r : List S34} {s : S34} {i : Nat} (h : l.drop i = s :: r) : i < l.length ∧ rd_T34 l (i : Int) = s ∧ l.drop (i + 1) = r := by
  have hi : i < l.length := by
    rcases Nat.lt_or_ge i l.length with h1 | h1
    · exact h1
    · rw [List.drop_eq_nil_of_le h1] at h; cases h
  rw [List.drop_eq_getElem_cons hi] at h
  injection h with h1 h2
  refine ⟨hi, ?_, h2⟩
  simp [rd_T34, List.getD, List.getElem?_eq_getElem hi, h1]
theorem drop_nil {α : Type} {l : List α} {i : Nat} (h : l.drop i = []) : l.length ≤ i := by
  have := congrArg List.length h
  rw [List.length_drop] at this
  simp at this
  omega
theorem wrap1 {i : Nat} (h : (i : Int) < 9223372036854775807) : wrap64 ((i : Int) + 1) = ((i + 1 : Nat) : Int) := by unfold wrap64; omega

theorem functions_l0 (c : List Int) (fs : List S34) (ts : List S58) (hf : fs.length ≤ 256) : ∀ (r : List S34) (j : Nat) (at_ : Int) (k : Nat), fs.drop j = r → r.length < k →
    proper_functions.l0 k at_ fs (fs.length : Int) (j : Int) c fs ts = some (fparts c.length fs.length r at_ j) := by
  intro r
  induction r with
  | nil =>
    intro j at_ k hd hk
    obtain ⟨k, rfl⟩ : ∃ m, k = m + 1 := ⟨k - 1, by omega⟩
    have := drop_nil hd
    simp only [proper_functions.l0]
    rw [if_neg (by omega)]
    by_cases h : (fs.length : Int) > 0
    · rw [if_pos h]; simp [fparts, beqd, h]; omega
    · rw [if_neg h]; simp [fparts, h]; omega
  | cons f r ih =>
    intro j at_ k hd hk
    obtain ⟨hj, hr, hd'⟩ := rd34_drop hd
    simp only [List.length_cons] at hk
    obtain ⟨k, rfl⟩ : ∃ m, k = m + 1 := ⟨k - 1, by omega⟩
    have ih' := ih (j + 1) f.f1 k hd' (by omega)
    simp only [proper_functions.l0]
    rw [if_pos (by omega), if_pos (by omega), if_pos (by omega), hr, wrap1 (by omega), ih']
    simp only [fparts]
    by_cases h1 : f.f0 = at_
    · by_cases h2 : f.f1 ≤ f.f0
      · rw [if_pos h1, if_pos h2, if_neg (by omega)]
      · by_cases h3 : f.f1 > c.length
        · rw [if_pos h1, if_neg h2, if_pos h3, if_neg (by omega)]
        · rw [if_pos h1, if_neg h2, if_neg h3, if_pos (by omega)]
          simp
    · rw [if_neg h1, if_neg (by omega)]
theorem functions_f (c : List Int) (fs : List S34) (ts : List S58) (hf : fs.length ≤ 256) (k : Nat) (hk : 257 ≤ k) : proper_functions.f k c fs ts = some (fparts c.length fs.length fs 0 0) :=
  functions_l0 c fs ts hf fs 0 0 k rfl (by omega)

/-! ### word by word -/
/-- The first of m words from a on with which something is wrong. -/
def fw (g : Int → Int) : Nat → Int → Int × Int
  | 0, _ => (0, 0)
  | m + 1, a => if g a = 0 then fw g m (a + 1) else (a, g a)

theorem check_l1 (g : Int → Int) (c : List Int) (fs : List S34) (ts : List S58) (hn : c.length ≤ 4096) (hc : ∀ x ∈ c, 0 ≤ x ∧ x < 4294967296) (b e : Int) (he : e ≤ c.length) (j : Int) (hj : wrap64 (j + 1) = j + 1)
    (hg : ∀ i, b ≤ i → i < e → g i = W fs.length ts.length (rd c i) b e i) (M K : Nat)
    (hnext : ∀ k, K ≤ k → proper_Check.l0 k fs (fs.length : Int) (j + 1) c fs ts = some (fw g M e)) :
    ∀ (m : Nat) (a : Int) (k : Nat), b ≤ a → 0 ≤ a → a + m = e → K + m + 12 ≤ k → proper_Check.l1 k a fs (fs.length : Int) j c fs ts b e = some (fw g (m + M) a) := by
  intro m
  induction m with
  | zero =>
    intro a k hb h0 hm hk
    obtain ⟨k, rfl⟩ : ∃ m, k = m + 1 := ⟨k - 1, by omega⟩
    have : a = e := by omega
    subst this
    simp only [proper_Check.l1]
    rw [if_neg (by omega), hj, hnext k (by omega)]
    simp
  | succ m ih =>
    intro a k hb h0 hm hk
    obtain ⟨k, rfl⟩ : ∃ m, k = m + 1 := ⟨k - 1, by omega⟩
    have ih' := ih (a + 1) k (by omega) (by omega) (by omega) (by omega)
    have hwr : proper_wrong.f k c fs ts a b e = some (W fs.length ts.length (rd c a) b e a) := by
      obtain ⟨q, rfl⟩ : ∃ m, k = m + 9 := ⟨k - 9, by omega⟩
      exact wrong_f q c fs ts a b e hc h0 (by omega) (by omega)
    simp only [proper_Check.l1]
    rw [if_pos (by omega), hwr, ← hg a hb (by omega), IntWalk.wrap64_in (a + 1) (by omega), ih', show m + 1 + M = (m + M) + 1 by omega]
    simp only [Option.bind_some, fw]
    by_cases h : g a = 0
    · rw [if_pos h, if_pos h]
    · rw [if_neg h, if_neg h]

theorem check_l0 (g : Int → Int) (c : List Int) (fs : List S34) (ts : List S58) (hn : c.length ≤ 4096) (hf : fs.length ≤ 256) (hc : ∀ x ∈ c, 0 ≤ x ∧ x < 4294967296) :
    ∀ (r : List S34) (j : Nat) (at_ : Int) (k : Nat), fs.drop j = r → 0 ≤ at_ → at_ ≤ c.length → Chain c.length r at_ → (∀ f ∈ r, ∀ i, f.f0 ≤ i → i < f.f1 → g i = W fs.length ts.length (rd c i) f.f0 f.f1 i) →
    (c.length - at_).toNat + 20 * r.length + 20 ≤ k → proper_Check.l0 k fs (fs.length : Int) (j : Int) c fs ts = some (fw g (c.length - at_).toNat at_) := by
  intro r
  induction r with
  | nil =>
    intro j at_ k hd h0 h1 hch hg hk
    obtain ⟨k, rfl⟩ : ∃ m, k = m + 1 := ⟨k - 1, by omega⟩
    have := drop_nil hd
    have e : at_ = c.length := hch
    simp only [proper_Check.l0]
    rw [if_neg (by omega), show ((c.length : Int) - at_).toNat = 0 by omega]
    rfl
  | cons f r ih =>
    intro j at_ k hd h0 h1 hch hg hk
    obtain ⟨hj, hr, hd'⟩ := rd34_drop hd
    obtain ⟨e0, e1, e2, hch'⟩ := hch
    simp only [List.length_cons] at hk
    obtain ⟨k, rfl⟩ : ∃ m, k = m + 1 := ⟨k - 1, by omega⟩
    simp only [proper_Check.l0]
    rw [if_pos (by omega), if_pos (by omega), if_pos (by omega), hr]
    have hw : wrap64 ((j : Int) + 1) = (j : Int) + 1 := IntWalk.wrap64_in _ (by omega)
    have hl := check_l1 g c fs ts hn hc f.f0 f.f1 e2 (j : Int) hw (hg f List.mem_cons_self) (c.length - f.f1).toNat ((c.length - f.f1).toNat + 20 * r.length + 20)
      (fun k' hk' => ih (j + 1) f.f1 k' hd' (by omega) e2 hch' (fun x hx => hg x (List.mem_cons_of_mem _ hx)) hk') (f.f1 - f.f0).toNat f.f0 k (by omega) (by omega) (by omega) (by omega)
    rw [hl, e0, show (f.f1 - at_).toNat + ((c.length : Int) - f.f1).toNat = ((c.length : Int) - at_).toNat by omega]
def checkAll (g : Int → Int) (c : List Int) (fs : List S34) (ts : List S58) : Int × Int :=
  if (c.length : Int) > 4096 ∨ (fs.length : Int) > 256 ∨ (ts.length : Int) > 256 then (0, 2)
  else if (fparts c.length fs.length fs 0 0).2 = false then ((fparts c.length fs.length fs 0 0).1, 81)
  else match ts.findIdx? badTable with
    | some i => ((i : Int), 83)
    | none => fw g c.length 0

theorem check_f (g : Int → Int) (c : List Int) (fs : List S34) (ts : List S58) (hc : ∀ x ∈ c, 0 ≤ x ∧ x < 4294967296) 
    (hg : c.length ≤ 4096 → Chain c.length fs 0 → ∀ f ∈ fs, ∀ i, f.f0 ≤ i → i < f.f1 → g i = W fs.length ts.length (rd c i) f.f0 f.f1 i) (k : Nat) (hk : 20000 ≤ k) : proper_Check.f k c fs ts = some (checkAll g c fs ts) := by
  obtain ⟨k, rfl⟩ : ∃ m, k = m + 1 := ⟨k - 1, by omega⟩
  unfold proper_Check.f checkAll
  simp only [proper_Check.j0]
  by_cases c1 : (c.length : Int) > 4096
  · simp [c1]
  by_cases c2 : (fs.length : Int) > 256
  · simp [c1, c2]
  by_cases c3 : (ts.length : Int) > 256
  · simp [c1, c2, c3]
  rw [if_neg c1, if_neg c2, if_neg (by simpa using c3), if_neg (show ¬ ((c.length : Int) > 4096 ∨ (fs.length : Int) > 256 ∨ (ts.length : Int) > 256) by omega), functions_f c fs ts (by omega) k (by omega)]
  simp only [Option.bind_some]
  cases hp : (fparts c.length fs.length fs 0 0).2 with
  | false => simp
  | true =>
    have hch := chain_of _ _ _ _ _ hp
    simp only [proper_tables.f, Option.bind_some, if_true]
    cases ht : ts.findIdx? badTable with
    | some i => simp [firstOf, ht]; omega
    | none =>
      simp only [firstOf, ht]
      have := check_l0 g c fs ts (by omega) (by omega) hc fs 0 0 k rfl (by omega) (by omega) hch (hg (by omega) hch) (by omega)
      simpa using this
end Go.Proofs.Ytdlikjfffdpmiaa.CProper

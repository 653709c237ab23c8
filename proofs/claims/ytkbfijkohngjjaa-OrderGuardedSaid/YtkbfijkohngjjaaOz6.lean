/- Of each event the places of those that come ahead of it, as bits of words: what sets makes of the arrows. Conditions: each theorem's own.
   The arrows as a sorted list: that there is one; the arrows of one event lie together. Conditions: each theorem's own.
   The function value of sets: it joins one event's set to another's, and the event itself. Conditions: the sets' rows lie apart.
   What sets holds in memory: the rows done so far. Conditions: each theorem's own.
   What sets holds in memory within one round: the rows done, and the one at work. Conditions: each theorem's own.
   order.sets: of each event the places of those that come ahead of it, as bits. Conditions: none but that the arguments are there. -/
import Derived.Test.YtkbfijkohngjjaaOz1
import Derived.Laws.Bits64b
import Derived.Laws.BitsLemmas
import Derived.BigRegion
import Derived.Test.YtkbfijkohngjjaaOz3
import Derived.Test.YtkbfijkohngjjaaOz5
set_option linter.unusedVariables false
set_option linter.unusedSimpArgs false
namespace Go.Proofs.Ytkbfijkohngjjaa.Od
open Go.RowKit Go.Proofs.Ytkbfijkohngjjaa.QOrder Go.Proofs.YtkbfijkohngjjaaW.PrintWords Go.Proofs.YtkbfijkohngjjaaW.PrintLast Go.Proofs.YtkbfijkohngjjaaW.PrintMore
/-- From where arrows lead to an event directly: the one ahead of it, and those of the arrows. -/
def srcs (l : List S36) (o : List S60) (j : Nat) : List Nat := (if 0 ≤ ahead l j then [(ahead l j).toNat] else []) ++ (o.filter (fun a => a.f1 == (j : Int))).map (fun a => a.f0.toNat)
/-- The first comes ahead of the second. -/
inductive Bef (l : List S36) (o : List S60) : Nat → Nat → Prop
  | one {i j : Nat} : i ∈ srcs l o j → Bef l o i j
  | more {i f j : Nat} : Bef l o i f → f ∈ srcs l o j → Bef l o i j
/-- Arrows lead on. -/
def Fwd (o : List S60) : Prop := ∀ a ∈ o, 0 ≤ a.f0 ∧ a.f0 < a.f1
section
variable {l : List S36} {o : List S60} {i j k f : Nat}
theorem srcs_lt (h : Fwd o) (hf : f ∈ srcs l o j) : f < j := by
  unfold srcs at hf
  rcases List.mem_append.1 hf with q | q
  · by_cases c : 0 ≤ ahead l j
    · rw [if_pos c, List.mem_singleton] at q
      have := @ahead_lt l j
      omega
    · rw [if_neg c] at q; cases q
  · obtain ⟨a, ha, rfl⟩ := List.mem_map.1 q
    obtain ⟨h1, h2⟩ := List.mem_filter.1 ha
    have h3 := h a h1
    have h4 : a.f1 = (j : Int) := by simpa using h2
    omega
theorem bef_lt (h : Fwd o) (hb : Bef l o i j) : i < j := by
  induction hb with
  | one q => exact srcs_lt h q
  | more _ q ih => have := srcs_lt h q; omega
theorem bef_trans (h1 : Bef l o i j) (h2 : Bef l o j k) : Bef l o i k := by
  induction h2 with
  | one q => exact .more h1 q
  | more _ q ih => exact .more ih q
theorem bef_iff : Bef l o i j ↔ ∃ f, f ∈ srcs l o j ∧ (i = f ∨ Bef l o i f) := by
  constructor
  · intro h
    cases h with
    | one q => exact ⟨i, q, .inl rfl⟩
    | more p q => exact ⟨_, q, .inr p⟩
  · rintro ⟨f, q, rfl | p⟩
    · exact .one q
    · exact .more p q
end
def W64 (x : Int) : Prop := 0 ≤ x ∧ x < 18446744073709551616
def or64 (a b : Int) : Int := Go.bits .or .u64 a b
theorem or64_nat {a b : Int} (ha : W64 a) (hb : W64 b) : or64 a b = ((a.toNat ||| b.toNat : Nat) : Int) := by
  have h := bits_or_u64_nat a.toNat b.toNat (by have := ha.2; have := ha.1; omega) (by have := hb.2; have := hb.1; omega)
  rw [Int.toNat_of_nonneg ha.1, Int.toNat_of_nonneg hb.1] at h
  exact h
theorem or64_W {a b : Int} (ha : W64 a) (hb : W64 b) : W64 (or64 a b) := by
  rw [or64_nat ha hb]
  have h1 : a.toNat < 2 ^ 64 := by have := ha.2; have := ha.1; omega
  have h2 : b.toNat < 2 ^ 64 := by have := hb.2; have := hb.1; omega
  have h3 := Nat.or_lt_two_pow h1 h2
  exact ⟨Int.natCast_nonneg _, by omega⟩
def bitI (x : Int) (p : Nat) : Bool := x.toNat.testBit p
theorem or64_bit {a b : Int} (ha : W64 a) (hb : W64 b) (p : Nat) : bitI (or64 a b) p = (bitI a p || bitI b p) := by
  unfold bitI
  rw [or64_nat ha hb, Int.toNat_natCast, Nat.testBit_or]
theorem W64_pow {m : Nat} (h : m < 64) : W64 ((2 ^ m : Nat) : Int) := by
  have := Nat.pow_lt_pow_right (a := 2) (by decide) h
  exact ⟨Int.natCast_nonneg _, by omega⟩
theorem bit_pow (m p : Nat) : bitI ((2 ^ m : Nat) : Int) p = decide (m = p) := by
  unfold bitI
  rw [Int.toNat_natCast, Nat.testBit_two_pow]
theorem W64_0 : W64 0 := ⟨Int.le_refl _, by decide⟩
def AllW (s : List Int) : Prop := ∀ x ∈ s, W64 x
theorem AllW.get {s : List Int} (h : AllW s) (p : Nat) : W64 (s.getD p 0) := by
  rw [List.getD_eq_getElem?_getD]
  by_cases c : p < s.length
  · rw [List.getElem?_eq_getElem c]; exact h _ (List.getElem_mem c)
  · rw [List.getElem?_eq_none (by omega)]; exact W64_0
def inS (s : List Int) (p : Nat) : Bool := decide (p / 64 < s.length) && bitI (s.getD (p / 64) 0) (p % 64)
def joinK (s r : List Int) (k : Nat) : List Int := (List.range s.length).map (fun p => if p < k then or64 (s.getD p 0) (r.getD p 0) else s.getD p 0)
def setB (s : List Int) (f : Nat) : List Int := s.set (f / 64) (or64 (s.getD (f / 64) 0) ((2 ^ (f % 64) : Nat) : Int))
def joinR (s r : List Int) (f : Nat) : List Int := setB (joinK s r r.length) f
section
variable {s r : List Int} {k f p : Nat}
theorem joinK_len : (joinK s r k).length = s.length := by simp [joinK]
theorem setB_len : (setB s f).length = s.length := by simp [setB]
theorem joinR_len : (joinR s r f).length = s.length := by unfold joinR; rw [setB_len, joinK_len]
theorem joinK_get (hp : p < s.length) : (joinK s r k).getD p 0 = if p < k then or64 (s.getD p 0) (r.getD p 0) else s.getD p 0 := by
  unfold joinK
  rw [List.getD_eq_getElem?_getD, List.getElem?_map, List.getElem?_range hp]
  rfl
theorem joinK_0 : joinK s r 0 = s := by
  apply List.ext_getElem?
  intro p
  by_cases hp : p < s.length
  · have h := joinK_get (r := r) (k := 0) hp
    rw [if_neg (Nat.not_lt_zero p), List.getD_eq_getElem?_getD, List.getD_eq_getElem?_getD, List.getElem?_eq_getElem hp, List.getElem?_eq_getElem (by rw [joinK_len]; exact hp)] at h
    rw [List.getElem?_eq_getElem hp, List.getElem?_eq_getElem (by rw [joinK_len]; exact hp)]
    exact congrArg some h
  · rw [List.getElem?_eq_none (by rw [joinK_len]; omega), List.getElem?_eq_none (by omega)]
theorem joinK_succ (hk : k < s.length) : (joinK s r k).set k (or64 ((joinK s r k).getD k 0) (r.getD k 0)) = joinK s r (k + 1) := by
  rw [joinK_get hk, if_neg (Nat.lt_irrefl k)]
  apply List.ext_getElem?
  intro p
  rw [List.getElem?_set, joinK_len]
  by_cases hp : p < s.length
  · have h1 := joinK_get (r := r) (k := k) hp
    have h2 := joinK_get (r := r) (k := k + 1) hp
    rw [List.getD_eq_getElem?_getD, List.getElem?_eq_getElem (by rw [joinK_len]; exact hp)] at h1 h2
    rw [List.getElem?_eq_getElem (l := joinK s r (k + 1)) (by rw [joinK_len]; exact hp)]
    by_cases e : k = p
    · subst e
      rw [if_pos rfl, if_pos hp]
      rw [if_pos (Nat.lt_succ_self k)] at h2
      exact congrArg some h2.symm
    · rw [if_neg e, List.getElem?_eq_getElem (by rw [joinK_len]; exact hp)]
      have h3 : (if p < k + 1 then or64 (s.getD p 0) (r.getD p 0) else s.getD p 0) = (if p < k then or64 (s.getD p 0) (r.getD p 0) else s.getD p 0) := by
        by_cases c : p < k
        · rw [if_pos c, if_pos (by omega)]
        · rw [if_neg c, if_neg (by omega)]
      exact congrArg some ((h1.trans h3.symm).trans h2.symm)
  · have e : ¬ k = p := by omega
    rw [if_neg e, List.getElem?_eq_none (by rw [joinK_len]; omega), List.getElem?_eq_none (by rw [joinK_len]; omega)]
theorem joinK_W (hs : AllW s) (hr : AllW r) : AllW (joinK s r k) := by
  intro x hx
  unfold joinK at hx
  obtain ⟨p, _, rfl⟩ := List.mem_map.1 hx
  by_cases c : p < k
  · simp only [if_pos c]; exact or64_W (hs.get p) (hr.get p)
  · simp only [if_neg c]; exact hs.get p
theorem setB_W (hs : AllW s) : AllW (setB s f) := by
  intro x hx
  unfold setB at hx
  rcases List.mem_or_eq_of_mem_set hx with h | h
  · exact hs x h
  · rw [h]; exact or64_W (hs.get _) (W64_pow (Nat.mod_lt _ (by decide)))
theorem joinR_W (hs : AllW s) (hr : AllW r) : AllW (joinR s r f) := setB_W (joinK_W hs hr)
theorem inS_joinK (hs : AllW s) (hr : AllW r) (hl : r.length ≤ s.length) : inS (joinK s r r.length) p = (inS s p || inS r p) := by
  unfold inS
  rw [joinK_len]
  by_cases c : p / 64 < s.length
  · rw [joinK_get c]
    by_cases c2 : p / 64 < r.length
    · rw [if_pos c2, or64_bit (hs.get _) (hr.get _)]
      simp [c, c2]
    · rw [if_neg c2]
      simp [c, c2]
  · have c2 : ¬ p / 64 < r.length := by omega
    simp [c, c2]
theorem inS_setB (hs : AllW s) (hf : f / 64 < s.length) : inS (setB s f) p = (inS s p || decide (p = f)) := by
  unfold inS
  rw [setB_len]
  by_cases c : p / 64 < s.length
  · unfold setB
    by_cases e : f / 64 = p / 64
    · have h : (s.set (f / 64) (or64 (s.getD (f / 64) 0) ((2 ^ (f % 64) : Nat) : Int))).getD (p / 64) 0 = or64 (s.getD (f / 64) 0) ((2 ^ (f % 64) : Nat) : Int) := by
        rw [List.getD_eq_getElem?_getD, List.getElem?_set, if_pos e, if_pos hf]
        rfl
      rw [h, or64_bit (hs.get _) (W64_pow (Nat.mod_lt _ (by decide))), bit_pow, e]
      by_cases q : p = f
      · subst q; simp [c]
      · have : ¬ f % 64 = p % 64 := by omega
        simp [c, q, this]
    · have h : (s.set (f / 64) (or64 (s.getD (f / 64) 0) ((2 ^ (f % 64) : Nat) : Int))).getD (p / 64) 0 = s.getD (p / 64) 0 := by
        rw [List.getD_eq_getElem?_getD, List.getElem?_set, if_neg e, ← List.getD_eq_getElem?_getD]
      rw [h]
      have q : ¬ p = f := fun q => e (by rw [q])
      simp [q]
  · have q : ¬ p = f := fun q => by subst q; exact c hf
    simp [c, q]
theorem inS_joinR (hs : AllW s) (hr : AllW r) (hl : r.length ≤ s.length) (hf : f / 64 < s.length) : inS (joinR s r f) p = (inS s p || inS r p || decide (p = f)) := by
  unfold joinR
  rw [inS_setB (joinK_W hs hr) (by rw [joinK_len]; exact hf), inS_joinK hs hr hl]
end
/-- A row out of those ahead of it. -/
def mkRow (l : List S36) (o : List S60) (R : List (List Int)) (n : Nat) : List Int := (srcs l o n).foldl (fun s f => joinR s (R.getD f []) f) (List.replicate (n / 64 + 1) 0)
def rowL (l : List S36) (o : List S60) : Nat → List (List Int)
  | 0 => []
  | n + 1 => rowL l o n ++ [mkRow l o (rowL l o n) n]
def rowF (l : List S36) (o : List S60) (j : Nat) : List Int := mkRow l o (rowL l o j) j
section
variable {l : List S36} {o : List S60} {j n p : Nat}
theorem rowL_len : (rowL l o n).length = n := by
  induction n with
  | zero => rfl
  | succ n ih => unfold rowL; rw [List.length_append, ih]; rfl
theorem rowL_get? (h : j < n) : (rowL l o n)[j]? = some (rowF l o j) := by
  induction n with
  | zero => omega
  | succ n ih =>
    unfold rowL
    by_cases e : j < n
    · rw [List.getElem?_append_left (by rw [rowL_len]; exact e)]; exact ih e
    · have e2 : j = n := by omega
      subst e2
      rw [List.getElem?_append_right (by rw [rowL_len]; exact Nat.le_refl _), rowL_len, Nat.sub_self]
      rfl
theorem rowL_get (h : j < n) : (rowL l o n).getD j [] = rowF l o j := by rw [List.getD_eq_getElem?_getD, rowL_get? h]; rfl
theorem fold_row (ho : Fwd o) {R : Nat → List Int} {B : Nat → Nat → Prop} (hR : ∀ f, f < n → (R f).length = f / 64 + 1 ∧ AllW (R f) ∧ ∀ p, (inS (R f) p = true ↔ B p f)) :
    ∀ (fs : List Nat) (s : List Int), (∀ f ∈ fs, f < n) → s.length = n / 64 + 1 → AllW s →
      ((fs.foldl (fun s f => joinR s (R f) f) s).length = n / 64 + 1 ∧ AllW (fs.foldl (fun s f => joinR s (R f) f) s) ∧ ∀ p, (inS (fs.foldl (fun s f => joinR s (R f) f) s) p = true ↔ (inS s p = true ∨ ∃ f, f ∈ fs ∧ (p = f ∨ B p f))))
  | [], s, _, hl, hw => ⟨hl, hw, fun p => ⟨.inl, fun h => h.elim id (fun ⟨f, hf, _⟩ => by cases hf)⟩⟩
  | f :: fs, s, hf, hl, hw => by
    obtain ⟨r1, r2, r3⟩ := hR f (hf f (List.mem_cons_self ..))
    have hlt := hf f (List.mem_cons_self ..)
    have hd : f / 64 ≤ n / 64 := Nat.div_le_div_right (Nat.le_of_lt hlt)
    obtain ⟨h1, h2, h3⟩ := fold_row ho hR fs (joinR s (R f) f) (fun g hg => hf g (List.mem_cons_of_mem _ hg)) (by rw [joinR_len]; exact hl) (joinR_W hw r2)
    refine ⟨h1, h2, fun p => (h3 p).trans ?_⟩
    rw [inS_joinR hw r2 (by omega) (by omega)]
    simp only [Bool.or_eq_true, decide_eq_true_eq, r3 p]
    constructor
    · rintro (((a | a) | a) | ⟨g, a, b⟩)
      · exact .inl a
      · exact .inr ⟨f, List.mem_cons_self .., .inr a⟩
      · exact .inr ⟨f, List.mem_cons_self .., .inl a⟩
      · exact .inr ⟨g, List.mem_cons_of_mem _ a, b⟩
    · rintro (a | ⟨g, a, b⟩)
      · exact .inl (.inl (.inl a))
      · rcases List.mem_cons.1 a with q | q
        · subst q
          rcases b with b | b
          · exact .inl (.inr b)
          · exact .inl (.inl (.inr b))
        · exact .inr ⟨g, q, b⟩
theorem foldl_congr {α β : Type} {f g : α → β → α} : ∀ {l : List β} {a : α}, (∀ a b, b ∈ l → f a b = g a b) → l.foldl f a = l.foldl g a
  | [], _, _ => rfl
  | b :: l, a, h => by
    rw [List.foldl_cons, List.foldl_cons, h a b (List.mem_cons_self ..)]
    exact foldl_congr (fun a c hc => h a c (List.mem_cons_of_mem _ hc))
theorem rowF_eq (ho : Fwd o) : rowF l o j = (srcs l o j).foldl (fun s f => joinR s (rowF l o f) f) (List.replicate (j / 64 + 1) 0) := by
  unfold rowF mkRow
  refine foldl_congr (fun s f hf => ?_)
  rw [rowL_get (srcs_lt ho hf)]
  rfl
theorem inS_zero (m : Nat) : inS (List.replicate m 0) p = false := by
  unfold inS
  have h : (List.replicate m (0 : Int)).getD (p / 64) 0 = 0 := by
    rw [List.getD_eq_getElem?_getD]
    by_cases c : p / 64 < m
    · rw [List.getElem?_replicate, if_pos c]; rfl
    · rw [List.getElem?_replicate, if_neg c]; rfl
  rw [h]
  simp [bitI]
theorem row_in (ho : Fwd o) : ∀ j, (rowF l o j).length = j / 64 + 1 ∧ AllW (rowF l o j) ∧ ∀ p, (inS (rowF l o j) p = true ↔ Bef l o p j) := by
  intro j
  induction j using Nat.strongRecOn with
  | ind j ih =>
    rw [rowF_eq ho]
    obtain ⟨h1, h2, h3⟩ := fold_row (n := j) ho (R := rowF l o) (B := Bef l o) ih (srcs l o j) (List.replicate (j / 64 + 1) 0) (fun f hf => srcs_lt ho hf) (by simp) (fun x hx => by rw [List.eq_of_mem_replicate hx]; exact W64_0)
    refine ⟨h1, h2, fun p => (h3 p).trans ?_⟩
    rw [inS_zero, bef_iff]
    simp
end
end Go.Proofs.Ytkbfijkohngjjaa.Od
set_option linter.unusedVariables false
set_option linter.unusedSimpArgs false
namespace Go.Proofs.Ytkbfijkohngjjaa.Od
open Go.RowKit Go.Proofs.Ytkbfijkohngjjaa.QOrder Go.Proofs.YtkbfijkohngjjaaW.PrintWords Go.Proofs.YtkbfijkohngjjaaW.PrintLast Go.Proofs.YtkbfijkohngjjaaW.PrintMore
def allA (n : Nat) : List S60 := (List.range n).flatMap fun (t : Nat) => (List.range t).flatMap fun (f : Nat) => (List.range 10).map fun (w : Nat) => (⟨(f : Int), (t : Int), (w : Int)⟩ : S60)
theorem range_pw {n : Nat} {R : Nat → Nat → Prop} (h : ∀ a b, a < b → b < n → R a b) : (List.range n).Pairwise R := by
  refine List.pairwise_lt_range.imp_of_mem ?_
  intro a b ha hb hab
  exact h a b hab (List.mem_range.1 hb)
theorem allA_sorted (n : Nat) : SortedA (allA n) := by
  unfold allA SortedA
  rw [List.pairwise_flatMap]
  refine ⟨fun t ht => ?_, range_pw (fun a b hab hb x hx y hy => ?_)⟩
  · rw [List.pairwise_flatMap]
    refine ⟨fun f hf => ?_, range_pw (fun a b hab hb x hx y hy => ?_)⟩
    · rw [List.pairwise_map]
      refine range_pw (fun a b hab hb => .inr ⟨rfl, .inr ⟨rfl, ?_⟩⟩)
      show (a : Int) < (b : Int)
      omega
    · obtain ⟨u, _, rfl⟩ := List.mem_map.1 hx
      obtain ⟨v, _, rfl⟩ := List.mem_map.1 hy
      refine .inr ⟨rfl, .inl ?_⟩
      show (a : Int) < (b : Int)
      omega
  · obtain ⟨u, _, hx⟩ := List.mem_flatMap.1 hx
    obtain ⟨_, _, rfl⟩ := List.mem_map.1 hx
    obtain ⟨v, _, hy⟩ := List.mem_flatMap.1 hy
    obtain ⟨_, _, rfl⟩ := List.mem_map.1 hy
    refine .inl ?_
    show (a : Int) < (b : Int)
    omega
theorem allA_mem {n : Nat} {a : S60} {t f w : Nat} (h1 : a.f1 = (t : Int)) (h0 : a.f0 = (f : Int)) (h2 : a.f2 = (w : Int)) (ht : t < n) (hf : f < t) (hw : w < 10) : a ∈ allA n := by
  unfold allA
  refine List.mem_flatMap.2 ⟨t, List.mem_range.2 ht, List.mem_flatMap.2 ⟨f, List.mem_range.2 hf, List.mem_map.2 ⟨w, List.mem_range.2 hw, ?_⟩⟩⟩
  cases a
  simp only at h1 h0 h2
  rw [h0, h1, h2]
theorem why_lt10 {l : List S36} {caps : List Int} {f w : Int} {t : Nat} (h : allP l caps f t w) : 0 ≤ w ∧ w < 10 := by
  rcases h with h | h | h | h | h
  · have := h.2.2; omega
  · rcases h with ⟨_, _, _, h⟩ | ⟨_, _, _, h⟩
    · cases hp : place l l.length 16 ((E l t).f4, (E l t).f5) with
      | none => rw [hp] at h; have := h.2; omega
      | some s => rw [hp] at h; have := h.2; omega
    · cases hp : place l l.length 17 ((E l t).f4, wrap64 ((E l t).f5 - cap caps (E l t).f4)) with
      | none => rw [hp] at h; exact h.elim
      | some s => rw [hp] at h; have := h.2; omega
  · obtain ⟨_, h⟩ := h
    cases hp : (idx l l.length 27 (E l t).f4)[(idx l t 26 (E l t).f4).length]? with
    | none => rw [hp] at h; have := h.2; omega
    | some s => rw [hp] at h; have := h.2; omega
  · rcases h with ⟨_, k, _, _, h⟩ | ⟨i, _, _, h⟩
    · omega
    · unfold leads at h; omega
  · obtain ⟨_, s, _, _, h⟩ := h
    omega
theorem canon_spec (l : List S36) (caps : List Int) : SortedA (canonA l caps) ∧ ∀ a, a ∈ canonA l caps ↔ isArr l caps a := by
  refine Classical.epsilon_spec (p := fun o => SortedA o ∧ ∀ a, a ∈ o ↔ isArr l caps a) ⟨(allA l.length).filter (fun a => @decide (isArr l caps a) (Classical.propDecidable _)), (allA_sorted _).filter _, fun a => ?_⟩
  rw [List.mem_filter]
  constructor
  · rintro ⟨_, h⟩
    exact (@decide_eq_true_iff _ (Classical.propDecidable _)).1 h
  · intro h
    refine ⟨?_, (@decide_eq_true_iff _ (Classical.propDecidable _)).2 h⟩
    obtain ⟨t, ht, e1, h0, h1, hp⟩ := h
    have hw := why_lt10 hp
    exact allA_mem (t := t) (f := a.f0.toNat) (w := a.f2.toNat) e1 (by omega) (by omega) ht (by omega) (by omega)
theorem canon_fwd (l : List S36) (caps : List Int) : Fwd (canonA l caps) := by
  intro a ha
  obtain ⟨t, _, e1, h0, h1, _⟩ := ((canon_spec l caps).2 a).1 ha
  omega
theorem canon_to {l : List S36} {caps : List Int} {a : S60} (ha : a ∈ canonA l caps) : a.f1 < (l.length : Int) := by
  obtain ⟨t, _, e1, h0, h1, _⟩ := ((canon_spec l caps).2 a).1 ha
  omega
/-- What Arrows tells, in cases. -/
theorem arrowsF_cases (l : List S36) (caps : List Int) : (l.length ≤ 65536 ∧ (∀ j, j < l.length → ¬ bad l caps j) ∧ arrowsF l caps = (canonA l caps, 0, 0)) ∨ ((arrowsF l caps).1 = [] ∧ (arrowsF l caps).2.2 ≠ 0 ∧ (65536 < l.length ∨ ∃ j, j < l.length ∧ bad l caps j)) := by
  unfold arrowsF
  by_cases c : 65536 < l.length
  · rw [if_pos c]; exact .inr ⟨rfl, by decide, .inl c⟩
  · rw [if_neg c]
    cases h : firstN (badB l caps) l.length with
    | some j => exact .inr ⟨rfl, (by show (260 : Int) ≠ 0; decide), .inr ⟨j, (firstN_some h).1, badB_iff.1 (firstN_some h).2.1⟩⟩
    | none => exact .inl ⟨(by omega), (fun j hj hb => by have h1 := firstN_none h j hj; rw [badB_iff.2 hb] at h1; cases h1), rfl⟩
theorem arrowsF_e0 {l : List S36} {caps : List Int} (h : (arrowsF l caps).2.2 = 0) : l.length ≤ 65536 ∧ arrowsF l caps = (canonA l caps, 0, 0) := by
  rcases arrowsF_cases l caps with h1 | h1
  · exact ⟨h1.1, h1.2.2⟩
  · exact absurd h h1.2.1
/-- Those that lead to i, and where they begin. -/
def atE (o : List S60) (i : Nat) : List S60 := o.filter (fun a => a.f1 == (i : Int))
def lo (o : List S60) (i : Nat) : Nat := (o.filter (fun a => decide (a.f1 < (i : Int)))).length
theorem lo_succ (o : List S60) (i : Nat) : lo o (i + 1) = lo o i + (atE o i).length := by
  unfold lo atE
  induction o with
  | nil => rfl
  | cons x o ih =>
    by_cases c1 : x.f1 < (i : Int)
    · have c2 : x.f1 < ((i + 1 : Nat) : Int) := by omega
      have c3 : (x.f1 == (i : Int)) = false := by simp; omega
      rw [List.filter_cons_of_pos (by simpa using c2), List.filter_cons_of_pos (by simpa using c1), List.filter_cons_of_neg (by simp [c3]), List.length_cons, List.length_cons, ih]
      omega
    · by_cases c3 : x.f1 = (i : Int)
      · have c2 : x.f1 < ((i + 1 : Nat) : Int) := by omega
        rw [List.filter_cons_of_pos (by simpa using c2), List.filter_cons_of_neg (by simpa using c1), List.filter_cons_of_pos (by simpa using c3), List.length_cons, List.length_cons, ih]
        omega
      · have c2 : ¬ x.f1 < ((i + 1 : Nat) : Int) := by omega
        rw [List.filter_cons_of_neg (by simpa using c2), List.filter_cons_of_neg (by simpa using c1), List.filter_cons_of_neg (by simpa using c3), ih]
theorem lo_zero {o : List S60} (h : Fwd o) : lo o 0 = 0 := by
  unfold lo
  rw [List.length_eq_zero_iff, List.filter_eq_nil_iff]
  intro a ha
  have := h a ha
  simp
  omega
theorem split3 {i : Nat} : ∀ {o : List S60}, SortedA o → o = o.filter (fun a => decide (a.f1 < (i : Int))) ++ (atE o i ++ o.filter (fun a => decide ((i : Int) < a.f1)))
  | [], _ => rfl
  | x :: o, h => by
    obtain ⟨h1, h2⟩ := List.pairwise_cons.1 h
    have ih := split3 (i := i) h2
    have hge : ∀ y, y ∈ o → x.f1 ≤ y.f1 := fun y hy => by have := h1 y hy; unfold ltA at this; omega
    unfold atE at ih ⊢
    by_cases c1 : x.f1 < (i : Int)
    · rw [List.filter_cons_of_pos (by simpa using c1), List.filter_cons_of_neg (by simp; omega), List.filter_cons_of_neg (by simp; omega), List.cons_append, ← ih]
    · have e1 : o.filter (fun a => decide (a.f1 < (i : Int))) = [] := by
        rw [List.filter_eq_nil_iff]; intro a ha; have := hge a ha; simp; omega
      rw [e1, List.nil_append] at ih
      rw [List.filter_cons_of_neg (by simpa using c1), e1, List.nil_append]
      by_cases c3 : x.f1 = (i : Int)
      · rw [List.filter_cons_of_pos (by simpa using c3), List.filter_cons_of_neg (by simp; omega), List.cons_append, ← ih]
      · have e2 : o.filter (fun a => a.f1 == (i : Int)) = [] := by
          rw [List.filter_eq_nil_iff]; intro a ha; have := hge a ha; simp; omega
        rw [e2, List.nil_append] at ih
        rw [List.filter_cons_of_neg (by simpa using c3), e2, List.nil_append, List.filter_cons_of_pos (by simp; omega), ← ih]
theorem at_next {o : List S60} (h : SortedA o) {i m : Nat} (hm : m < (atE o i).length) : o[lo o i + m]? = (atE o i)[m]? := by
  have key : ∀ (p : List S60), p = o.filter (fun a => decide (a.f1 < (i : Int))) ++ (atE o i ++ o.filter (fun a => decide ((i : Int) < a.f1))) → p[lo o i + m]? = (atE o i)[m]? := by
    intro p hp
    rw [hp]
    unfold lo
    rw [List.getElem?_append_right (by omega), List.getElem?_append_left (by omega)]
    congr 1
    omega
  exact key o (split3 h)
theorem at_end {o : List S60} (h : SortedA o) {i : Nat} {a : S60} (ha : o[lo o i + (atE o i).length]? = some a) : a.f1 ≠ (i : Int) := by
  have key : ∀ (p : List S60), p = o.filter (fun a => decide (a.f1 < (i : Int))) ++ (atE o i ++ o.filter (fun a => decide ((i : Int) < a.f1))) → p[lo o i + (atE o i).length]? = some a → a.f1 ≠ (i : Int) := by
    intro p hp h1
    rw [hp] at h1
    unfold lo at h1
    rw [List.getElem?_append_right (by omega), List.getElem?_append_right (by omega)] at h1
    have := (List.mem_filter.1 (List.mem_of_getElem? h1)).2
    simp at this
    omega
  exact key o (split3 h) ha
theorem atE_mem {o : List S60} {i : Nat} {a : S60} (ha : a ∈ atE o i) : a ∈ o ∧ a.f1 = (i : Int) := by
  obtain ⟨h1, h2⟩ := List.mem_filter.1 ha
  exact ⟨h1, by simpa using h2⟩
end Go.Proofs.Ytkbfijkohngjjaa.Od
set_option linter.unusedVariables false
set_option linter.unusedSimpArgs false
namespace Go.Proofs.Ytkbfijkohngjjaa.Od
open Go.RowKit Go.Proofs.Ytkbfijkohngjjaa.Ef Go.Proofs.Ytkbfijkohngjjaa.Mp Go.Proofs.Ytkbfijkohngjjaa.QOrder Go.Proofs.YtkbfijkohngjjaaW.PrintWords Go.Proofs.YtkbfijkohngjjaaW.PrintLast Go.Proofs.YtkbfijkohngjjaaW.PrintMore
def encW (s : List Int) : Array Value := (s.map (Value.int .u64)).toArray
theorem encW_get {s : List Int} {i : Nat} (h : i < s.length) : (encW s)[i]? = some (.int .u64 (s.getD i 0)) := by
  simp [encW, List.getElem?_eq_getElem h, List.getD_eq_getElem?_getD]
theorem encW_set {s : List Int} {i : Nat} {v : Int} : (encW s).setIfInBounds i (.int .u64 v) = encW (s.set i v) := by
  apply Array.ext'
  simp [encW, List.map_set]
set_option maxHeartbeats 8000000 in
set_option maxRecDepth 100000 in
theorem sets1_calls (from_ go gs gr bo bs n base : Nat) (s r : List Int) (W : World)
    (hbo : W.heap[bo]? = some (.cells #[.slice (some ⟨go, 0, none⟩) n n] 61 (0, 0))) (hbs : W.heap[bs]? = some (.cells #[.slice (some ⟨gs, 0, none⟩) s.length s.length] 65 (0, 0)))
    (hgo : W.cell? ⟨go, from_, none⟩ = some (.slice (some ⟨gr, 0, none⟩) r.length r.length)) (hgr : W.heap[gr]? = some (.cells (encW r) 32 (0, 0))) (hgs : W.heap[gs]? = some (.cells (encW s) 32 (0, 0)))
    (h1 : gs ≠ gr) (h2 : gs ≠ bo) (h3 : gs ≠ bs) (hb : base ≤ gs) (hfn : from_ < n) (hn : n ≤ 65536) (hrl : r.length ≤ s.length) (hf : from_ / 64 < s.length) (hsl : s.length ≤ 2000) :
    Calls Try.prog 49 #[.int .i64 (from_ : Int), .pointer (some ⟨bo, 0, none⟩), .pointer (some ⟨bs, 0, none⟩)] W fun e w' => e = .returned (.tuple #[]) ∧ w'.heap[gs]? = some (.cells (encW (joinR s r from_)) 32 (0, 0)) ∧ Fr base (fun k => k = gs) W w' := by
  have hFr := Aside0.mk (Fr.refl (S := fun k => k = gs) (base := base) (w := W) (Nat.le_trans hb (Nat.le_of_lt (blk_lt hgs))) (fun k hk => by rw [hk]; exact hb))
  have c0 : W.cell? ⟨bo, 0, none⟩ = some (.slice (some ⟨go, 0, none⟩) n n) := (blk_cell hbo 0).trans rfl
  have HBS := Aside0.mk hbs
  have HGR := Aside0.mk hgr
  have HGS := Aside0.mk hgs
  have N1 := Aside0.mk h1
  have N3 := Aside0.mk h3
  have HRL := Aside0.mk hrl
  have HF := Aside0.mk hf
  have HSL := Aside0.mk hsl
  have HN := Aside0.mk (Nat.lt_of_lt_of_le hfn hn)
  have f0 : (0 : Int) ≤ (from_ : Int) := by omega
  have f1 : (from_ : Int) < (n : Int) := by omega
  clear hbo hbs hgr hgs h1 h2 h3 hb hrl hf hsl hn hfn
  go_enter Try.func49, Try.ntmps49
  go_wp2
  go_loopw [11] (fun v11 wr => ∃ i : Nat, v11 = .int .i64 (i : Int) ∧ Aside0 (i ≤ r.length) ∧ Aside0 (wr.heap[gs]? = some (.cells (encW (joinK s r i)) 32 (0, 0))) ∧ Aside0 (Fr base (fun k => k = gs) W wr)) (fun v11 _ => r.length - (intOf v11).toNat)
  case atStart => exact ⟨0, rfl, ⟨Nat.zero_le _⟩, ⟨by rw [joinK_0]; exact HGS.out⟩, ⟨hFr.out⟩⟩
  case round =>
    obtain ⟨i, rfl, HI, HG, HR⟩ := hrel
    clear c0 hgo HGS hFr
    have HBr := Aside0.mk (HR.out.blk HBS.out (fun e => N3.out e.symm))
    have HGr := Aside0.mk (HR.out.blk HGR.out (fun e => N1.out e.symm))
    have d0 : wr.cell? ⟨bs, 0, none⟩ = some (.slice (some ⟨gs, 0, none⟩) s.length s.length) := (blk_cell HBr.out 0).trans rfl
    by_cases hlt : (i : Int) < (r.length : Int)
    · have hir : i < r.length := by omega
      have HIR := Aside0.mk hir
      have HLT := Aside0.mk hlt
      have HW := Aside0.mk (wrap_succ (n := 65536) (show i < 65536 by have := HRL.out; have := HSL.out; omega) (Nat.le_refl _))
      have his : i < s.length := by have := HRL.out; omega
      have d1 : wr.cell? ⟨gr, i, none⟩ = some (.int .u64 (r.getD i 0)) := (blk_cell HGr.out i).trans (encW_get hir)
      have d2 : wr.cell? ⟨gs, i, none⟩ = some (.int .u64 ((joinK s r i).getD i 0)) := (blk_cell HG.out i).trans (encW_get (by rw [joinK_len]; exact his))
      have d3 : wr.frozen? ⟨gs, i, none⟩ = false := blk_frozen HG.out i
      obtain ⟨x, HX⟩ : ∃ x, Aside0 (r.getD i 0 = x) := ⟨_, ⟨rfl⟩⟩
      obtain ⟨y, HY⟩ : ∃ y, Aside0 ((joinK s r i).getD i 0 = y) := ⟨_, ⟨rfl⟩⟩
      rw [HX.out] at d1
      rw [HY.out] at d2
      have i0 : (0 : Int) ≤ (i : Int) := by omega
      have i1 : (i : Int) < (s.length : Int) := by omega
      clear hir his
      go_wp2
      have HSt := Aside0.mk (set_step HG.out i (.int .u64 (or64 y x)) encW_set)
      go_roundw
      case rel =>
        have e : joinK s r (i + 1) = (joinK s r i).set i (or64 y x) := by rw [← HX.out, ← HY.out, joinK_succ (by have := HRL.out; have := HIR.out; omega)]
        exact ⟨i + 1, by rw [HW.out], ⟨HIR.out⟩, ⟨by rw [e]; exact HSt.out.1⟩, ⟨HR.out.grown HSt.out.2 (.inl rfl)⟩⟩
      case measure => exact meas_lt (Int.ofNat_lt.1 HLT.out) HW.out
    · have hi : i = r.length := by have := HI.out; omega
      subst hi
      obtain ⟨q, HQ⟩ : ∃ q, Aside0 (from_ / 64 = q) := ⟨_, ⟨rfl⟩⟩
      obtain ⟨m, HM⟩ : ∃ m, Aside0 (from_ % 64 = m) := ⟨_, ⟨rfl⟩⟩
      have hq : IntKind.i64.wrap ((from_ : Int) / 64) = (q : Int) := by
        have e : (from_ : Int) / 64 = (q : Int) := by have := HQ.out; omega
        rw [e, IntKind.wrap_i64]; have := HN.out; have := HQ.out; omega
      have hm : (from_ : Int) % 64 = (m : Int) := by have := HM.out; omega
      have hm2 : (from_ : Int).tmod 64 = (m : Int) := by rw [← HM.out]; rfl
      have q0 : (0 : Int) ≤ (q : Int) := by omega
      have q1 : (q : Int) < (s.length : Int) := by have := HF.out; have := HQ.out; omega
      have m0 : (0 : Int) ≤ (m : Int) := by omega
      have hm64 : m < 64 := by have := HM.out; omega
      have d2 : wr.cell? ⟨gs, q, none⟩ = some (.int .u64 ((joinK s r r.length).getD q 0)) := (blk_cell HG.out _).trans (encW_get (by rw [joinK_len]; omega))
      have d3 : wr.frozen? ⟨gs, q, none⟩ = false := blk_frozen HG.out _
      obtain ⟨y, HY⟩ : ∃ y, Aside0 ((joinK s r r.length).getD q 0 = y) := ⟨_, ⟨rfl⟩⟩
      rw [HY.out] at d2
      go_wp2
      go_still_tail 9, (by kernel_rfl)
      change wpList _ _ _ _ _ wr.drew
      have HG2 := Aside0.mk (blk_drew HG.out)
      have HR2 := Aside0.mk HR.out.drew
      have d4 : wr.drew.cell? ⟨gs, q, none⟩ = some (.int .u64 y) := d2
      have d5 : wr.drew.frozen? ⟨gs, q, none⟩ = false := d3
      have HPw := Aside0.mk (show IntKind.u64.wrap ((2 : Int) ^ m) = ((2 ^ m : Nat) : Int) by
        have h1 := W64_pow hm64
        have e : ((2 : Int) ^ m) = ((2 ^ m : Nat) : Int) := by simp
        rw [e, IntKind.wrap_u64]
        exact Int.emod_eq_of_lt h1.1 h1.2)
      clear d0 d2 d3 HG HR
      generalize wr.drew = w2 at *
      go_wp2
      have HSt := Aside0.mk (set_step HG2.out q (.int .u64 (or64 y (IntKind.u64.wrap ((2 : Int) ^ m)))) encW_set)
      go_end0
      refine ⟨rfl, ?_, HR2.out.grown HSt.out.2 (.inl rfl)⟩
      have e : joinR s r from_ = (joinK s r r.length).set q (or64 y (IntKind.u64.wrap ((2 : Int) ^ m))) := by
        unfold joinR setB
        rw [HPw.out, HQ.out, HM.out, HY.out]
      rw [e]
      exact HSt.out.1
end Go.Proofs.Ytkbfijkohngjjaa.Od
set_option linter.unusedVariables false
set_option linter.unusedSimpArgs false
namespace Go.Proofs.Ytkbfijkohngjjaa.Od
open Go.RowKit Go.Proofs.Ytkbfijkohngjjaa.Ef Go.Proofs.Ytkbfijkohngjjaa.Mp Go.Proofs.Ytkbfijkohngjjaa.QOrder Go.Proofs.YtkbfijkohngjjaaW.PrintWords Go.Proofs.YtkbfijkohngjjaaW.PrintLast Go.Proofs.YtkbfijkohngjjaaW.PrintMore
section
variable {P : Program} {ops : Array Oper} {rest : List Oper} {o : Oper} {a : Act} {Q : Exit → Act → World → Prop} {W : World}
/-- make([]T, n) of elements of one cell: the block is known whole. -/
theorem make_known (hgd : o.guard = none) {N : Tmp} (_hd : o.dst = some N) {t : TypeId} {x y : Operand} (ho : o.op = .makeSlice t x y) (m : Nat) (hx : a.eval x = .int .i64 (m : Int)) (hy : a.eval y = .int .i64 (m : Int)) {e : TypeId}
    (ht : P.underlying t = some (.slice e)) {z : Value} {bytes : Nat} (hinfo : (P.info? e).map (fun i => (i.zero, i.size, i.bytes)) = some (some z, 1, bytes)) (hb0 : 0 < bytes) (hl : m * bytes ≤ 281474976710656)
    (h : ∀ g, g = W.heap.size → ∀ w1, w1.heap[g]? = some (.cells (madeCells z.cells m) e (0, 0)) → Below W.heap.size W w1 → wpList P ops Q rest (a.put o.dst (.slice (some ⟨g, 0, none⟩) m m)) w1) : wpList P ops Q (o :: rest) a W := by
  obtain ⟨i0, hi, hzz⟩ := Option.map_eq_some_iff.1 hinfo
  simp only [Prod.mk.injEq] at hzz
  obtain ⟨hz0, hz1, hz2⟩ := hzz
  have hm : m ≤ 281474976710656 := Nat.le_trans (Nat.le_mul_of_pos_right _ hb0) hl
  have hr := run_make (P := P) W t e i0 z ht hi hz0 .i64 .i64 (m : Int) (m : Int) (by omega) (by omega)
    (by
      have h3 : ((i0.bytes * m : Nat) : Int) ≤ 281474976710656 := by rw [hz2, Nat.mul_comm]; omega
      rwa [Int.natCast_mul] at h3) (by omega)
  simp only [Int.toNat_natCast] at hr
  rw [hz1, Nat.mul_one] at hr
  refine Kd.event_run hgd (v := .slice (some ⟨W.heap.size, 0, none⟩) m m) ?_ (h _ rfl _ (blk_new W _) (below_alloc (Below.refl _ _) _))
  simp [execOp, ho, hx, hy, hr]
end
theorem encW_made (n : Nat) : madeCells (Value.int .u64 0).cells n = encW (List.replicate n 0) := by
  apply Array.ext'
  show (madeCells #[Value.int .u64 0] n).toList = _
  rw [toList_madeCells_one]
  simp [encW]
/-- The cells of the rows: those below i are there. -/
def outC (n i : Nat) (b : Nat → Nat) : Array Value := ((List.range n).map (fun j => if j < i then Value.slice (some ⟨b j, 0, none⟩) (j / 64 + 1) (j / 64 + 1) else .slice none 0 0)).toArray
theorem outC_made (n : Nat) (b : Nat → Nat) : madeCells (Value.slice none 0 0).cells n = outC n 0 b := by
  apply Array.ext'
  show (madeCells #[Value.slice none 0 0] n).toList = _
  rw [toList_madeCells_one]
  simp only [outC]
  apply List.ext_getElem?
  intro j
  rw [List.getElem?_replicate, List.getElem?_map]
  by_cases h : j < n
  · rw [if_pos h, List.getElem?_range h]; rfl
  · rw [if_neg h, List.getElem?_eq_none (by simpa using h)]; rfl
theorem outC_get {n i j : Nat} {b : Nat → Nat} (hj : j < n) (hi : j < i) : (outC n i b)[j]? = some (.slice (some ⟨b j, 0, none⟩) (j / 64 + 1) (j / 64 + 1)) := by
  simp [outC, List.getElem?_toArray, hj, hi]
theorem outC_set {n i g : Nat} {b : Nat → Nat} (hi : i < n) : (outC n i b).setIfInBounds i (.slice (some ⟨g, 0, none⟩) (i / 64 + 1) (i / 64 + 1)) = outC n (i + 1) (fun j => if j = i then g else b j) := by
  apply Array.ext'
  simp only [outC, List.setIfInBounds_toArray]
  apply List.ext_getElem?
  intro j
  rw [List.getElem?_set, List.getElem?_map, List.getElem?_map, List.length_map, List.length_range]
  by_cases hj : j < n
  · rw [List.getElem?_range hj]
    by_cases e : i = j
    · subst e
      rw [if_pos rfl, if_pos hi]
      simp
    · rw [if_neg e]
      have e2 : ¬ j = i := fun q => e q.symm
      simp only [Option.map_some, if_neg e2]
      by_cases c : j < i
      · rw [if_pos c, if_pos (by omega)]
      · rw [if_neg c, if_neg (by omega)]
  · have e : ¬ i = j := by omega
    rw [if_neg e, List.getElem?_eq_none (by simpa using hj)]
    rfl
/-- The rows below i are done; base: nothing that they are lies below. -/
structure SI (w : World) (base : Nat) (l : List S36) (o : List S60) (bo go i : Nat) (b : Nat → Nat) (W : World) : Prop where
  hb : Below base w W
  bsz : base ≤ W.heap.size
  hbo : W.heap[bo]? = some (.cells #[.slice (some ⟨go, 0, none⟩) l.length l.length] 61 (0, 0))
  hgo : W.heap[go]? = some (.cells (outC l.length i b) 65 (0, 0))
  gb : base ≤ go
  rows : ∀ j, j < i → W.heap[b j]? = some (.cells (encW (rowF l o j)) 32 (0, 0)) ∧ base ≤ b j
  inj : ∀ j k, j < i → k < i → b j = b k → j = k
section
variable {w W W2 : World} {base : Nat} {l : List S36} {o : List S60} {bo go i gs : Nat} {b : Nat → Nat}
theorem blk_type_ne {W : World} {g h t u : Nat} {c1 c2 : Array Value} (h1 : W.heap[g]? = some (.cells c1 t (0, 0))) (h2 : W.heap[h]? = some (.cells c2 u (0, 0))) (ht : t ≠ u) : g ≠ h := by
  intro e
  subst e
  rw [h1] at h2
  cases h2
  exact ht rfl
theorem SI.below (h : SI w base l o bo go i b W) (hb : Below W.heap.size W W2) : SI w base l o bo go i b W2 :=
  ⟨h.hb.trans (below_up hb h.bsz), Nat.le_trans h.bsz hb.size, blk_below h.hbo hb, blk_below h.hgo hb, h.gb, fun j hj => ⟨blk_below (h.rows j hj).1 hb, (h.rows j hj).2⟩, h.inj⟩
theorem SI.fr (h : SI w base l o bo go i b W) {c : Array Value} (hg : W.heap[gs]? = some (.cells c 32 (0, 0))) (hn : ∀ j, j < i → gs ≠ b j) (hf : Fr base (fun k => k = gs) W W2) : SI w base l o bo go i b W2 :=
  ⟨h.hb.trans hf.b, Nat.le_trans h.bsz hf.size, hf.blk h.hbo (fun e => blk_type_ne h.hbo hg (by decide) e), hf.blk h.hgo (fun e => blk_type_ne h.hgo hg (by decide) e), h.gb, fun j hj => ⟨hf.blk (h.rows j hj).1 (fun e => hn j hj e.symm), (h.rows j hj).2⟩, h.inj⟩
/-- The row of i is put in its place. -/
theorem SI.put (h : SI w base l o bo go i b W) (hi : i < l.length) (hg : W.heap[gs]? = some (.cells (encW (rowF l o i)) 32 (0, 0))) (hgb : base ≤ gs) (hn : ∀ j, j < i → gs ≠ b j) :
    SI w base l o bo go (i + 1) (fun j => if j = i then gs else b j) (W.setCell ⟨go, i, none⟩ (.slice (some ⟨gs, 0, none⟩) (i / 64 + 1) (i / 64 + 1))) := by
  obtain ⟨s1, s2⟩ := set_step h.hgo i (.slice (some ⟨gs, 0, none⟩) (i / 64 + 1) (i / 64 + 1)) (outC_set hi)
  refine ⟨below_mput h.hb s2 h.gb h.bsz, Nat.le_trans h.bsz s2.size, blk_grown h.hbo s2 (fun e => blk_type_ne h.hbo h.hgo (by decide) (Option.some.inj e)), s1, h.gb, fun j hj => ?_, fun j k hj hk he => ?_⟩
  · by_cases e : j = i
    · subst e
      rw [if_pos rfl]
      exact ⟨blk_grown hg s2 (fun e => blk_type_ne hg h.hgo (by decide) (Option.some.inj e)), hgb⟩
    · rw [if_neg e]
      have h1 := h.rows j (by omega)
      exact ⟨blk_grown h1.1 s2 (fun e => blk_type_ne h1.1 h.hgo (by decide) (Option.some.inj e)), h1.2⟩
  · by_cases e1 : j = i
    · by_cases e2 : k = i
      · rw [e1, e2]
      · rw [if_pos e1, if_neg e2] at he
        exact absurd he (hn k (by omega))
    · by_cases e2 : k = i
      · rw [if_neg e1, if_pos e2] at he
        exact absurd he.symm (hn j (by omega))
      · rw [if_neg e1, if_neg e2] at he
        exact h.inj j k (by omega) (by omega) he
/-- All rows done: as the print tells it. -/
theorem SI.done (h : SI w base l o bo go l.length b W) (ho : Fwd o) (hl : l.length ≤ 65536) : Kd.S (Kd.slice 32 (Kd.int .u64)) 65 W base (fun _ => True) (.slice (some ⟨go, 0, none⟩) l.length l.length) (rowL l o l.length) := by
  classical
  let f : Nat → Nat := fun k => if hk : ∃ j, j < l.length ∧ b j = k then hk.choose else 0
  have hf : ∀ j, j < l.length → f (b j) = j := by
    intro j hj
    have hk : ∃ i, i < l.length ∧ b i = b j := ⟨j, hj, rfl⟩
    show (if hk : ∃ i, i < l.length ∧ b i = b j then hk.choose else 0) = j
    rw [dif_pos hk]
    exact h.inj _ _ hk.choose_spec.1 hj hk.choose_spec.2
  refine ⟨f, fun _ _ => trivial, (outC l.length l.length b).toList, ?_, ?_⟩
  · rw [List.length_zipIdx, rowL_len]
    refine ⟨by simp [outC, Kd.tag, Kd.slice], .inr ⟨go, l.length, outC l.length l.length b, rfl, h.gb, h.hgo, Nat.le_refl _, by simp only [maxLen]; omega, by simp [outC, Kd.tag, Kd.slice], ?_⟩⟩
    show (outC l.length l.length b).toList.take (l.length * 1) = _
    rw [Nat.mul_one]
    exact List.take_of_length_le (by simp [outC])
  · refine ⟨by simp [outC, rowL_len, Kd.tag, Kd.slice], fun j p hj => ?_⟩
    rw [List.getElem?_zipIdx, Nat.zero_add] at hj
    obtain ⟨x, hx, rfl⟩ := Option.map_eq_some_iff.1 hj
    have hjl : j < l.length := by
      have := (List.getElem?_eq_some_iff.1 hx).1
      rwa [rowL_len] at this
    rw [rowL_get? hjl] at hx
    cases hx
    have hrow := (row_in (l := l) ho j).1
    refine ⟨.slice (some ⟨b j, 0, none⟩) (j / 64 + 1) (j / 64 + 1), ?_, ?_⟩
    · show ((outC l.length l.length b).toList.drop (j * 1)).take 1 = _
      rw [Nat.mul_one]
      have h2 := outC_get (b := b) hjl hjl
      rw [← Array.getElem?_toList] at h2
      obtain ⟨h3, h4⟩ := List.getElem?_eq_some_iff.1 h2
      rw [List.drop_eq_getElem_cons h3, h4]
      rfl
    · refine ⟨fun k hk => ?_, (encW (rowF l o j)).toList, ?_, ?_⟩
      · simp only [Value.ownBlock, Option.some.injEq] at hk
        subst hk
        refine ⟨⟨trivial, ?_⟩, hf j hjl⟩
        simp only [Value.ownBlock, ne_eq, Option.some.injEq]
        exact fun e => blk_type_ne (h.rows j hjl).1 h.hgo (by decide) e
      · rw [hrow]
        refine ⟨by simp [encW, hrow, Kd.int, Kd.scalar], .inr ⟨b j, j / 64 + 1, encW (rowF l o j), rfl, (h.rows j hjl).2, (h.rows j hjl).1, Nat.le_refl _, by simp only [maxLen]; omega, by simp [encW, hrow, Kd.int, Kd.scalar], ?_⟩⟩
        show (encW (rowF l o j)).toList.take ((j / 64 + 1) * 1) = _
        rw [Nat.mul_one]
        exact List.take_of_length_le (by simp [encW, hrow])
      · refine ⟨by simp [encW, Kd.int, Kd.scalar], fun k x hk => ?_⟩
        show ((encW (rowF l o j)).toList.drop (k * 1)).take 1 = _
        rw [Nat.mul_one]
        have h3 := (List.getElem?_eq_some_iff.1 hk).1
        have h4 := encW_get h3
        rw [← Array.getElem?_toList] at h4
        obtain ⟨h5, h6⟩ := List.getElem?_eq_some_iff.1 h4
        rw [List.drop_eq_getElem_cons h5, h6]
        rw [List.getD_eq_getElem?_getD, hk]
        rfl
end
end Go.Proofs.Ytkbfijkohngjjaa.Od
set_option linter.unusedVariables false
set_option linter.unusedSimpArgs false
namespace Go.Proofs.Ytkbfijkohngjjaa.Od
open Go.RowKit Go.Proofs.Ytkbfijkohngjjaa.Ef Go.Proofs.Ytkbfijkohngjjaa.Mp Go.Proofs.Ytkbfijkohngjjaa.QOrder Go.Proofs.YtkbfijkohngjjaaW.PrintWords Go.Proofs.YtkbfijkohngjjaaW.PrintLast Go.Proofs.YtkbfijkohngjjaaW.PrintMore
theorem inf65 : (Try.prog.info? 65).map (fun i => (i.zero, i.size, i.bytes)) = some (some (.slice none 0 0), 1, 24) := by kernel_rfl
theorem inf32 : (Try.prog.info? 32).map (fun i => (i.zero, i.size, i.bytes)) = some (some (.int .u64 0), 1, 8) := by kernel_rfl
noncomputable def setsF (l : List S36) (caps : List Int) : List (List Int) × Int × Int := if (arrowsF l caps).2.2 = 0 then (rowL l (arrowsF l caps).1 l.length, 0, 0) else ([], (arrowsF l caps).2.1, (arrowsF l caps).2.2)
/-- The sources of an event: the one ahead of it first. -/
def srcA (l : List S36) (i : Nat) : List Nat := if 0 ≤ ahead l i then [(ahead l i).toNat] else []
def stepR (l : List S36) (o : List S60) (s : List Int) (f : Nat) : List Int := joinR s (rowF l o f) f
/-- The set of i when m of its arrows are done. -/
def rowP (l : List S36) (o : List S60) (i m : Nat) : List Int := (srcA l i ++ ((atE o i).take m).map (fun a => a.f0.toNat)).foldl (stepR l o) (List.replicate (i / 64 + 1) 0)
theorem rowP_done {l : List S36} {o : List S60} {i : Nat} (ho : Fwd o) : rowP l o i (atE o i).length = rowF l o i := by
  rw [rowF_eq ho]
  unfold rowP srcs srcA stepR
  rw [List.take_length]
  rfl
theorem rowP_succ {l : List S36} {o : List S60} {i m : Nat} {a : S60} (ha : (atE o i)[m]? = some a) : rowP l o i (m + 1) = joinR (rowP l o i m) (rowF l o a.f0.toNat) a.f0.toNat := by
  unfold rowP
  rw [List.take_add_one, ha]
  simp only [Option.toList_some, List.map_append, ← List.append_assoc, List.foldl_append]
  rfl
theorem rowP_yes {l : List S36} {o : List S60} {i : Nat} (c : 0 ≤ ahead l i) : rowP l o i 0 = joinR (List.replicate (i / 64 + 1) 0) (rowF l o (ahead l i).toNat) (ahead l i).toNat := by
  unfold rowP srcA
  rw [if_pos c]; rfl
theorem rowP_no {l : List S36} {o : List S60} {i : Nat} (c : ¬ 0 ≤ ahead l i) : rowP l o i 0 = List.replicate (i / 64 + 1) 0 := by
  unfold rowP srcA
  rw [if_neg c]; rfl
/-- The rows below i, and s at work in block gs, boxed in bs. -/
structure SJ (w : World) (base : Nat) (l : List S36) (o : List S60) (bo go i : Nat) (b : Nat → Nat) (gs bs : Nat) (s : List Int) (W : World) : Prop where
  si : SI w base l o bo go i b W
  row : W.heap[gs]? = some (.cells (encW s) 32 (0, 0))
  box : W.heap[bs]? = some (.cells #[.slice (some ⟨gs, 0, none⟩) (i / 64 + 1) (i / 64 + 1)] 65 (0, 0))
  len : s.length = i / 64 + 1
  gb : base ≤ gs
  ne : ∀ j, j < i → gs ≠ b j
section
variable {w W W2 : World} {base : Nat} {l : List S36} {o : List S60} {bo go i gs bs k : Nat} {b : Nat → Nat} {s : List Int}
theorem SJ.below (h : SJ w base l o bo go i b gs bs s W) (hb : Below W.heap.size W W2) : SJ w base l o bo go i b gs bs s W2 :=
  ⟨h.si.below hb, blk_below h.row hb, blk_below h.box hb, h.len, h.gb, h.ne⟩
theorem SJ.join (h : SJ w base l o bo go i b gs bs s W) (ho : Fwd o) (hk : k < i) (hi : i < l.length) (hl : l.length ≤ 65536) :
    Calls Try.prog 49 #[.int .i64 (k : Int), .pointer (some ⟨bo, 0, none⟩), .pointer (some ⟨bs, 0, none⟩)] W fun e w' => e = .returned (.tuple #[]) ∧ SJ w base l o bo go i b gs bs (joinR s (rowF l o k) k) w' := by
  have hr := (row_in (l := l) ho k).1
  have hd : k / 64 ≤ i / 64 := Nat.div_le_div_right (Nat.le_of_lt hk)
  have h1 := outC_get (n := l.length) (b := b) (Nat.lt_trans hk hi) hk
  have hlen := h.len
  refine (sets1_calls k go gs (b k) bo bs l.length base s (rowF l o k) W h.si.hbo (by rw [hlen]; exact h.box) (by rw [hr]; exact (blk_cell h.si.hgo k).trans h1) (h.si.rows k hk).1 h.row (h.ne k hk) (fun e => blk_type_ne h.row h.si.hbo (by decide) e) (fun e => blk_type_ne h.row h.box (by decide) e) h.gb (by omega) hl (by rw [hr, hlen]; omega) (by rw [hlen]; omega) (by rw [hlen]; omega)).mono ?_
  rintro e w' ⟨rfl, hrow, hf⟩
  exact ⟨rfl, h.si.fr h.row h.ne hf, hrow, hf.blk h.box (fun e => blk_type_ne h.box h.row (by decide) e), by rw [joinR_len]; exact hlen, h.gb, h.ne⟩
/-- The row of i is done, and put in its place. -/
theorem SJ.put (h : SJ w base l o bo go i b gs bs (rowF l o i) W) (hi : i < l.length) :
    SI w base l o bo go (i + 1) (fun j => if j = i then gs else b j) (W.setCell ⟨go, i, none⟩ (.slice (some ⟨gs, 0, none⟩) (i / 64 + 1) (i / 64 + 1))) := h.si.put hi h.row h.gb h.ne
end
/-- The cells of the p-th arrow. -/
theorem at_arr {W0 W : World} {A : Option Addr} {o : List S60} (hC : Kd.C k60 W0 A o.length o) (hb : Below W0.heap.size W0 W) {p : Nat} {a : S60} (hp : o[p]? = some a) : ∃ ad, A = some ad ∧ W.cell? (ad.add (p * 3)) = some (.int .i64 a.f0) ∧ W.cell? ⟨(ad.add (p * 3)).block, (ad.add (p * 3)).off + 1, none⟩ = some (.int .i64 a.f1) ∧ p < o.length := by
  have hlt := (List.getElem?_eq_some_iff.1 hp).1
  have := at_T60 (Kd.C_below hC hb) (p : Int) (by omega) (by omega)
  have e : rd_T60 o (p : Int) = a := by unfold rd_T60; rw [Int.toNat_natCast, List.getD_eq_getElem?_getD, hp]; rfl
  rw [Int.toNat_natCast, e] at this
  obtain ⟨ad, h1, h2, h3, _⟩ := this
  exact ⟨ad, h1, h2, h3, hlt⟩
theorem at_ahead {W0 W : World} {A : Option Addr} {l : List S36} (hC : (Kd.int .i64).C W0 A l.length (aheads l l.length)) (hb : Below W0.heap.size W0 W) {i : Nat} (hi : i < l.length) : ∃ ad, A = some ad ∧ W.cell? (ad.add i) = some (.int .i64 (ahead l i)) := by
  obtain ⟨ad, h1, h2⟩ := Kd.at_int (Kd.C_below hC hb) (i : Int) (by omega) (by omega)
  rw [Int.toNat_natCast] at h2
  refine ⟨ad, h1, ?_⟩
  rw [h2]
  have : rd (aheads l l.length) (i : Int) = ahead l i := by
    unfold rd aheads
    rw [Int.toNat_natCast, List.getD_eq_getElem?_getD, List.getElem?_map, List.getElem?_range hi]
    rfl
  rw [this]
end Go.Proofs.Ytkbfijkohngjjaa.Od
set_option linter.unusedVariables false
set_option linter.unusedSimpArgs false
namespace Go.Proofs.Ytkbfijkohngjjaa.QOrder
open Go.RowKit Go.Proofs.Ytkbfijkohngjjaa.Ef Go.Proofs.Ytkbfijkohngjjaa.Mp Go.Proofs.Ytkbfijkohngjjaa.Od Go.Proofs.YtkbfijkohngjjaaW.PrintWords Go.Proofs.YtkbfijkohngjjaaW.PrintLast Go.Proofs.YtkbfijkohngjjaaW.PrintMore
theorem outC_none {n i : Nat} {b : Nat → Nat} (hi : i < n) : (outC n i b)[i]? = some (.slice none 0 0) := by
  simp [outC, List.getElem?_toArray, hi]
noncomputable def order_sets.f (l0 : List S36) (l1 : List Int) : Option (List (List Int) × Int × Int) := some (setsF l0 l1)
set_option maxHeartbeats 8000000 in
set_option maxRecDepth 100000 in
theorem order_sets.calls (A0 : Option Addr) (c0 : Nat) (l0 : List S36) (A1 : Option Addr) (c1 : Nat) (l1 : List Int) (r1 : List (List Int)) (r2 : Int) (r3 : Int) (w : World) (hr0 : Kd.C k36 w A0 l0.length l0) (hc0 : l0.length ≤ c0) (hr1 : Kd.C (Kd.int .i64) w A1 l1.length l1) (hc1 : l1.length ≤ c1) (h : order_sets.f l0 l1 = some (r1, r2, r3)) :
    Calls Try.prog 31 #[.slice A0 l0.length c0, .slice A1 l1.length c1] w fun e w' => ∃ v0_ : Value, e = .returned (.tuple #[v0_, .int .i64 r2, .int .i64 r3]) ∧ Kd.S (Kd.slice 32 (Kd.int .u64)) 65 w' w.heap.size (fun _ => True) v0_ r1 ∧ Below w.heap.size w w' := by
  have hu75 := Try.underlying75
  have hu61 := Try.underlying61
  have hu65 := Try.underlying65
  replace h : setsF l0 l1 = (r1, r2, r3) := Option.some.inj h
  obtain ⟨a1, a2, a3, ha⟩ : ∃ a1 a2 a3, arrowsF l0 l1 = (a1, a2, a3) := ⟨_, _, _, rfl⟩
  have HArr := Aside0.mk (order_Arrows.calls A0 c0 l0 A1 c1 l1 a1 a2 a3 w hr0 hc0 hr1 hc1 (by unfold order_Arrows.f; rw [ha]))
  have HA := Aside0.mk ha
  have HC0 := Aside0.mk hr0
  have HC1 := Aside0.mk hr1
  have HL0 := Aside0.mk hc0
  have HL1 := Aside0.mk hc1
  by_cases he : a3 = 0
  · subst he
    obtain ⟨hn, hcan⟩ := arrowsF_e0 (l := l0) (caps := l1) (by rw [ha])
    rw [ha] at hcan
    have hr : (r1, r2, r3) = (rowL l0 a1 l0.length, (0 : Int), (0 : Int)) := by rw [← h]; unfold setsF; rw [ha]; rfl
    have HSo := Aside0.mk (show SortedA a1 by cases hcan; exact (canon_spec l0 l1).1)
    have HFw := Aside0.mk (show Fwd a1 by cases hcan; exact canon_fwd l0 l1)
    have HN := Aside0.mk hn
    cases hr
    clear hr0 hc0 hr1 hc1 h hn ha hcan
    go_enter Try.func31, Try.ntmps31
    go_upto_region 7 with (first
      | (go_at_call 18; (refine HArr.out.mono ?_); rintro e w1 ⟨va, rfl, ho, hb⟩; have HO1 := Aside0.mk ho; have HB1 := Aside0.mk hb; have HRd := Aside0.mk (read_calls w1 l0 l1 A0 A1 c0 c1 (Kd.C_below HC0.out hb) HL0.out (Kd.C_below HC1.out hb) HL1.out HN.out); clear ho hb HArr)
      | (go_at_call 34; (refine HRd.out.mono ?_); rintro e w2 ⟨F, rfl, hf⟩; have HF := Aside0.mk hf; obtain ⟨vo, oo, wrx, hx⟩ := hf; have f2 : w2.cell? ⟨F.gf, 2, none⟩ = some F.va := (blk_cell hx.bf 2).trans rfl; have HB2 := Aside0.mk hx.ro.hb; have HQ := Aside0.mk hx.ro.ha; clear hx HRd)
      | ((with_reducible refine gate_dst (N := 35) rfl ?_); refine make_known rfl (N := 35) rfl rfl l0.length rfl rfl Try.underlying61 (z := .slice none 0 0) (bytes := 24) inf65 (by decide) (by have := HN.out; omega) ?_; intro go hgo w3 hbk hb3; have BG := Aside0.mk hbk; have HB3 := Aside0.mk hb3; have HGO := Aside0.mk hgo; clear hbk hb3 hgo f2)
      | ((with_reducible refine gate_dst (N := 11) rfl ?_); refine box_event ?hg (N := 11) ?hd (cs := #[.slice none 0 0]) (t := 61) ?hr ?_; (case hd => rfl); (case hg => rfl); (case hr => first | (go_simp; done) | (go_simp; rfl)); intro bo hbo w4 hbox hb; have HB4 := Aside0.mk (HB3.out.trans (below_up hb HB3.out.size)); have BK4 := Aside0.mk hbox; have BG4 := Aside0.mk (blk_below BG.out hb); have HBO := Aside0.mk (show w2.heap.size ≤ bo by have := HB3.out.size; omega); clear hb hbox hbo)
      | ((with_reducible refine gate_store (t := 61) (p := 11) (v := .tmp 35) rfl ?_); refine step_store rfl rfl rfl BK4.out rfl (u := .slice (some ⟨go, 0, none⟩) l0.length l0.length) (seg := [.slice (some ⟨go, 0, none⟩) l0.length l0.length]) rfl rfl (by kernel_rfl) (by simp [Value.oneCell']) (Nat.le_refl 1) (cur' := #[.slice (some ⟨go, 0, none⟩) l0.length l0.length]) rfl ?_; intro w5 hb5 hg5 hs5; have HSI := Aside0.mk (show SI w2 w2.heap.size l0 a1 bo go 0 (fun _ => 0) w5 from ⟨below_mput HB4.out hg5 HBO.out HB4.out.size, (below_mput HB4.out hg5 HBO.out HB4.out.size).size, hb5, by rw [← outC_made]; exact blk_grown BG4.out hg5 (fun e => blk_type_ne BG4.out BK4.out (by decide) (Option.some.inj e)), by rw [HGO.out]; exact Nat.le_refl _, fun j hj => absurd hj (Nat.not_lt_zero j), fun j k hj _ _ => absurd hj (Nat.not_lt_zero j)⟩); clear hb5 hg5 hs5 BK4 BG4 HB4 BG HB3))
    obtain ⟨A2, ca, rfl, hca, hcq⟩ := Kd.R_reads (Kd.R_below HO1.out HB2.out)
    have HCA := Aside0.mk hcq
    obtain ⟨A3, c3, hv3, hc3, hq3⟩ := Kd.Q_reads HQ.out
    have hal : (aheads l0 l0.length).length = l0.length := by simp [aheads]
    rw [hal] at hv3 hc3 hq3
    have HC3 := Aside0.mk hq3
    obtain ⟨va3, hva3⟩ : ∃ v, v = F.va := ⟨_, rfl⟩
    rw [← hva3] at hv3 ⊢
    subst hv3
    clear hcq hq3 hal hva3 HQ HF
    have HMX := Aside0.mk (Kd.C_max HCA.out)
    go_wp2
    go_loopw [12, 38] (fun v12 v38 wr => ∃ i : Nat, v12 = .int .i64 ((lo a1 i : Nat) : Int) ∧ v38 = .int .i64 (i : Int) ∧ Aside0 (i ≤ l0.length) ∧ ∃ b, Aside0 (SI w2 w2.heap.size l0 a1 bo go i b wr)) (fun _ v38 _ => l0.length - (intOf v38).toNat)
    case atStart => exact ⟨0, by rw [lo_zero HFw.out]; rfl, rfl, ⟨Nat.zero_le _⟩, _, HSI⟩
    case round =>
      clear HSI
      obtain ⟨i, rfl, rfl, HI, b, HSI⟩ := hrel
      by_cases hlt : (i : Int) < (l0.length : Int)
      · have hi0 : (0 : Int) ≤ (i : Int) := by omega
        have hil : i < l0.length := by omega
        have HIL := Aside0.mk hil
        have HW := Aside0.mk (wrap_succ hil HN.out)
        have HLT := Aside0.mk hlt
        obtain ⟨q, HQ⟩ : ∃ q, Aside0 (i / 64 = q) := ⟨_, ⟨rfl⟩⟩
        have HQB := Aside0.mk (show q ≤ 1024 by have := HN.out; have := HQ.out; omega)
        have hq : IntKind.i64.wrap ((i : Int) / 64) = (q : Int) := by
          have e : (i : Int) / 64 = (q : Int) := by have := HQ.out; omega
          rw [e, IntKind.wrap_i64]; have := HQB.out; omega
        have HQ1 := Aside0.mk (show Value.int .i64 (wrap64 ((q : Int) + 1)) = Value.int .i64 ((q + 1 : Nat) : Int) from congrArg _ (show wrap64 ((q : Int) + 1) = ((q + 1 : Nat) : Int) by rw [wrap64]; have := HQB.out; omega))
        obtain ⟨x, HX⟩ : ∃ x, Aside0 (Od.ahead l0 i = x) := ⟨_, ⟨rfl⟩⟩
        obtain ⟨ad3, e3, _⟩ := at_ahead HC3.out HSI.out.hb hil
        cases e3
        have i1 : (i : Int) < (c3 : Int) := by omega
        by_cases hx : 0 ≤ x
        · obtain ⟨k, rfl⟩ := Int.eq_ofNat_of_zero_le hx
          have HKI := Aside0.mk (show k < i by have := @ahead_lt l0 i; rw [HX.out] at this; omega)
          clear hil
          go_upto_region 14 with (first
        | ((with_reducible refine gate_dst (N := 44) rfl ?_); refine make_known rfl (N := 44) rfl rfl (q + 1) HQ1.out HQ1.out Try.underlying65 (z := .int .u64 0) (bytes := 8) inf32 (by decide) (by have := HQB.out; omega) ?_; intro gs hgs w6 hbk hb6; have BG := Aside0.mk hbk; have HB6 := Aside0.mk hb6; have HGS := Aside0.mk hgs; clear hbk hb6 hgs)
        | ((with_reducible refine gate_dst (N := 14) rfl ?_); refine box_event ?hg (N := 14) ?hd (cs := #[.slice none 0 0]) (t := 65) ?hr ?_; (case hd => rfl); (case hg => rfl); (case hr => first | (go_simp; done) | (go_simp; rfl)); intro bs hbs w7 hbox hb; have HB7 := Aside0.mk (HB6.out.trans (below_up hb HB6.out.size)); have BK7 := Aside0.mk hbox; have BG7 := Aside0.mk (blk_below BG.out hb); have HBS := Aside0.mk (show wr.heap.size ≤ bs by have := HB6.out.size; omega); clear hb hbox hbs)
        | ((with_reducible refine gate_store (t := 65) (p := 14) (v := .tmp 44) rfl ?_); refine step_store rfl rfl rfl BK7.out rfl (u := .slice (some ⟨gs, 0, none⟩) (q + 1) (q + 1)) (seg := [.slice (some ⟨gs, 0, none⟩) (q + 1) (q + 1)]) rfl rfl (by kernel_rfl) (by simp [Value.oneCell']) (Nat.le_refl 1) (cur' := #[.slice (some ⟨gs, 0, none⟩) (q + 1) (q + 1)]) rfl ?_; intro w8 hb8 hg8 hs8; have HSJ := Aside0.mk (show SJ w2 w2.heap.size l0 a1 bo go i b gs bs (List.replicate (i / 64 + 1) 0) w8 from ⟨HSI.out.below (below_mput HB7.out hg8 HBS.out HB7.out.size), by rw [HQ.out, ← encW_made]; exact blk_grown BG7.out hg8 (fun e => blk_type_ne BG7.out BK7.out (by decide) (Option.some.inj e)), by rw [HQ.out]; exact hb8, List.length_replicate, by rw [HGS.out]; exact HSI.out.bsz, fun j hj e => by have := blk_lt (HSI.out.rows j hj).1; rw [← e, HGS.out] at this; exact Nat.lt_irrefl _ this⟩); have hah : w8.cell? (ad3.add i) = some (.int .i64 (k : Int)) := by { obtain ⟨ad', e', h'⟩ := at_ahead HC3.out HSJ.out.si.hb HIL.out; cases e'; rw [HX.out] at h'; exact h' }; clear hb8 hg8 hs8 BK7 BG7 HB7 BG HB6 HSI)
        | (go_at_call 49; (refine (HSJ.out.join HFw.out HKI.out HIL.out HN.out).mono ?_); rintro e w9 ⟨rfl, hj9⟩; have HSP := Aside0.mk (show SJ w2 w2.heap.size l0 a1 bo go i b gs bs (rowP l0 a1 i 0) w9 by { have e : rowP l0 a1 i 0 = joinR (List.replicate (i / 64 + 1) 0) (rowF l0 a1 k) k := by { rw [rowP_yes (by rw [HX.out]; exact hx), HX.out]; rfl }; rw [e]; exact hj9 }); clear hj9 hah))
          go_loopw [12] (fun v12 wr => ∃ m : Nat, v12 = .int .i64 ((lo a1 i + m : Nat) : Int) ∧ Aside0 (m ≤ (atE a1 i).length) ∧ Aside0 (SJ w2 w2.heap.size l0 a1 bo go i b gs bs (rowP l0 a1 i m) wr)) (fun v12 _ => a1.length - (intOf v12).toNat)
          case atStart => exact ⟨0, rfl, ⟨Nat.zero_le _⟩, ⟨HSP.out⟩⟩
          case round =>
            clear HSP HSJ
            obtain ⟨m, rfl, HM, HJ⟩ := hrel
            obtain ⟨p, HP⟩ : ∃ p, Aside0 (lo a1 i + m = p) := ⟨_, ⟨rfl⟩⟩
            rw [HP.out]
            have p0 : (0 : Int) ≤ (p : Int) := by omega
            by_cases hm : m < (atE a1 i).length
            · obtain ⟨a, ha⟩ : ∃ a, (atE a1 i)[m]? = some a := ⟨_, List.getElem?_eq_getElem hm⟩
              have HAt := Aside0.mk ha
              have hp := at_next HSo.out (i := i) hm
              rw [HP.out, ha] at hp
              obtain ⟨ad, e2, x0, x1, hplt⟩ := at_arr HCA.out HJ.out.si.hb hp
              cases e2
              obtain ⟨hmem, hf1⟩ := atE_mem (List.mem_of_getElem? ha)
              have hfw := HFw.out a hmem
              obtain ⟨k, HK⟩ : ∃ k, Aside0 (a.f0.toNat = k) := ⟨_, ⟨rfl⟩⟩
              have hk0 : a.f0 = (k : Int) := by have := HK.out; omega
              have HKI := Aside0.mk (show k < i by omega)
              rw [hk0] at x0
              rw [hf1] at x1
              have p1 : (p : Int) < (a1.length : Int) := by omega
              have HPL := Aside0.mk hplt
              have HMM := Aside0.mk hm
              have HWp := Aside0.mk (show wrap64 ((p : Int) + 1) = ((p + 1 : Nat) : Int) by have := HMX.out; rw [wrap64]; omega)
              clear hp hmem hf1 hfw hk0 hplt hm ha
              go_wp2_with (go_at_call 49; (refine (HJ.out.join HFw.out HKI.out HIL.out HN.out).mono ?_); rintro e w9 ⟨rfl, hj9⟩; have HJ9 := Aside0.mk hj9; clear hj9 x0 x1)
              go_roundw
              case rel => exact ⟨m + 1, by rw [HWp.out, ← HP.out]; rfl, ⟨HMM.out⟩, ⟨by rw [rowP_succ HAt.out, HK.out]; exact HJ9.out⟩⟩
              case measure => exact meas_lt HPL.out HWp.out
            · have hme : m = (atE a1 i).length := by have := HM.out; omega
              have HJ2 := Aside0.mk (show SJ w2 w2.heap.size l0 a1 bo go i b gs bs (rowF l0 a1 i) wr by rw [← rowP_done HFw.out, ← hme]; exact HJ.out)
              have HLo := Aside0.mk (show p = lo a1 (i + 1) by rw [lo_succ, ← hme]; exact HP.out.symm)
              have y0 : wr.cell? ⟨bo, 0, none⟩ = some (.slice (some ⟨go, 0, none⟩) l0.length l0.length) := (blk_cell HJ2.out.si.hbo 0).trans rfl
              have y1 : wr.cell? ⟨bs, 0, none⟩ = some (.slice (some ⟨gs, 0, none⟩) (q + 1) (q + 1)) := by rw [← HQ.out]; exact (blk_cell HJ2.out.box 0).trans rfl
              have y2 : wr.cell? ⟨go, i, none⟩ = some (.slice none 0 0) := (blk_cell HJ2.out.si.hgo i).trans (outC_none HIL.out)
              have y3 : wr.frozen? ⟨go, i, none⟩ = false := blk_frozen HJ2.out.si.hgo i
              by_cases hpl : p < a1.length
              · obtain ⟨a, ha⟩ : ∃ a, a1[p]? = some a := ⟨_, List.getElem?_eq_getElem hpl⟩
                obtain ⟨ad, e2, x0, x1, hplt⟩ := at_arr HCA.out HJ.out.si.hb ha
                cases e2
                have hne : a.f1 ≠ (i : Int) := at_end HSo.out (by rw [← hme, HP.out]; exact ha)
                obtain ⟨y, HY⟩ : ∃ y, Aside0 (a.f1 = y) := ⟨_, ⟨rfl⟩⟩
                rw [HY.out] at x1 hne
                have p1 : (p : Int) < (a1.length : Int) := by omega
                have hne2 : (y == (i : Int)) = false := by simpa using hne
                clear ha hplt hme hpl HJ
                go_wp2
                have HPut := Aside0.mk (HJ2.out.put HIL.out)
                rw [HQ.out] at HPut
                go_roundw
                case rel => exact ⟨i + 1, by rw [HLo.out], by rw [HW.out], ⟨HIL.out⟩, _, HPut⟩
                case measure => exact meas_lt (Int.ofNat_lt.1 HLT.out) HW.out
              · have p1 : ¬ (p : Int) < (a1.length : Int) := by omega
                clear hme hpl HJ
                go_wp2
                have HPut := Aside0.mk (HJ2.out.put HIL.out)
                rw [HQ.out] at HPut
                go_roundw
                case rel => exact ⟨i + 1, by rw [HLo.out], by rw [HW.out], ⟨HIL.out⟩, _, HPut⟩
                case measure => exact meas_lt (Int.ofNat_lt.1 HLT.out) HW.out
        · have HX0 := Aside0.mk hx
          clear hil
          go_upto_region 14 with (first
        | ((with_reducible refine gate_dst (N := 44) rfl ?_); refine make_known rfl (N := 44) rfl rfl (q + 1) HQ1.out HQ1.out Try.underlying65 (z := .int .u64 0) (bytes := 8) inf32 (by decide) (by have := HQB.out; omega) ?_; intro gs hgs w6 hbk hb6; have BG := Aside0.mk hbk; have HB6 := Aside0.mk hb6; have HGS := Aside0.mk hgs; clear hbk hb6 hgs)
        | ((with_reducible refine gate_dst (N := 14) rfl ?_); refine box_event ?hg (N := 14) ?hd (cs := #[.slice none 0 0]) (t := 65) ?hr ?_; (case hd => rfl); (case hg => rfl); (case hr => first | (go_simp; done) | (go_simp; rfl)); intro bs hbs w7 hbox hb; have HB7 := Aside0.mk (HB6.out.trans (below_up hb HB6.out.size)); have BK7 := Aside0.mk hbox; have BG7 := Aside0.mk (blk_below BG.out hb); have HBS := Aside0.mk (show wr.heap.size ≤ bs by have := HB6.out.size; omega); clear hb hbox hbs)
        | ((with_reducible refine gate_store (t := 65) (p := 14) (v := .tmp 44) rfl ?_); refine step_store rfl rfl rfl BK7.out rfl (u := .slice (some ⟨gs, 0, none⟩) (q + 1) (q + 1)) (seg := [.slice (some ⟨gs, 0, none⟩) (q + 1) (q + 1)]) rfl rfl (by kernel_rfl) (by simp [Value.oneCell']) (Nat.le_refl 1) (cur' := #[.slice (some ⟨gs, 0, none⟩) (q + 1) (q + 1)]) rfl ?_; intro w8 hb8 hg8 hs8; have HSJ := Aside0.mk (show SJ w2 w2.heap.size l0 a1 bo go i b gs bs (List.replicate (i / 64 + 1) 0) w8 from ⟨HSI.out.below (below_mput HB7.out hg8 HBS.out HB7.out.size), by rw [HQ.out, ← encW_made]; exact blk_grown BG7.out hg8 (fun e => blk_type_ne BG7.out BK7.out (by decide) (Option.some.inj e)), by rw [HQ.out]; exact hb8, List.length_replicate, by rw [HGS.out]; exact HSI.out.bsz, fun j hj e => by have := blk_lt (HSI.out.rows j hj).1; rw [← e, HGS.out] at this; exact Nat.lt_irrefl _ this⟩); have hah : w8.cell? (ad3.add i) = some (.int .i64 x) := by { obtain ⟨ad', e', h'⟩ := at_ahead HC3.out HSJ.out.si.hb HIL.out; cases e'; rw [HX.out] at h'; exact h' }; clear hb8 hg8 hs8 BK7 BG7 HB7 BG HB6 HSI))
          have HSP := Aside0.mk (show SJ w2 w2.heap.size l0 a1 bo go i b gs bs (rowP l0 a1 i 0) w8 by rw [rowP_no (by rw [HX.out]; have := HX0.out; omega)]; exact HSJ.out)
          clear hah
          go_loopw [12] (fun v12 wr => ∃ m : Nat, v12 = .int .i64 ((lo a1 i + m : Nat) : Int) ∧ Aside0 (m ≤ (atE a1 i).length) ∧ Aside0 (SJ w2 w2.heap.size l0 a1 bo go i b gs bs (rowP l0 a1 i m) wr)) (fun v12 _ => a1.length - (intOf v12).toNat)
          case atStart => exact ⟨0, rfl, ⟨Nat.zero_le _⟩, ⟨HSP.out⟩⟩
          case round =>
            clear HSP HSJ
            obtain ⟨m, rfl, HM, HJ⟩ := hrel
            obtain ⟨p, HP⟩ : ∃ p, Aside0 (lo a1 i + m = p) := ⟨_, ⟨rfl⟩⟩
            rw [HP.out]
            have p0 : (0 : Int) ≤ (p : Int) := by omega
            by_cases hm : m < (atE a1 i).length
            · obtain ⟨a, ha⟩ : ∃ a, (atE a1 i)[m]? = some a := ⟨_, List.getElem?_eq_getElem hm⟩
              have HAt := Aside0.mk ha
              have hp := at_next HSo.out (i := i) hm
              rw [HP.out, ha] at hp
              obtain ⟨ad, e2, x0, x1, hplt⟩ := at_arr HCA.out HJ.out.si.hb hp
              cases e2
              obtain ⟨hmem, hf1⟩ := atE_mem (List.mem_of_getElem? ha)
              have hfw := HFw.out a hmem
              obtain ⟨k, HK⟩ : ∃ k, Aside0 (a.f0.toNat = k) := ⟨_, ⟨rfl⟩⟩
              have hk0 : a.f0 = (k : Int) := by have := HK.out; omega
              have HKI := Aside0.mk (show k < i by omega)
              rw [hk0] at x0
              rw [hf1] at x1
              have p1 : (p : Int) < (a1.length : Int) := by omega
              have HPL := Aside0.mk hplt
              have HMM := Aside0.mk hm
              have HWp := Aside0.mk (show wrap64 ((p : Int) + 1) = ((p + 1 : Nat) : Int) by have := HMX.out; rw [wrap64]; omega)
              clear hp hmem hf1 hfw hk0 hplt hm ha
              go_wp2_with (go_at_call 49; (refine (HJ.out.join HFw.out HKI.out HIL.out HN.out).mono ?_); rintro e w9 ⟨rfl, hj9⟩; have HJ9 := Aside0.mk hj9; clear hj9 x0 x1)
              go_roundw
              case rel => exact ⟨m + 1, by rw [HWp.out, ← HP.out]; rfl, ⟨HMM.out⟩, ⟨by rw [rowP_succ HAt.out, HK.out]; exact HJ9.out⟩⟩
              case measure => exact meas_lt HPL.out HWp.out
            · have hme : m = (atE a1 i).length := by have := HM.out; omega
              have HJ2 := Aside0.mk (show SJ w2 w2.heap.size l0 a1 bo go i b gs bs (rowF l0 a1 i) wr by rw [← rowP_done HFw.out, ← hme]; exact HJ.out)
              have HLo := Aside0.mk (show p = lo a1 (i + 1) by rw [lo_succ, ← hme]; exact HP.out.symm)
              have y0 : wr.cell? ⟨bo, 0, none⟩ = some (.slice (some ⟨go, 0, none⟩) l0.length l0.length) := (blk_cell HJ2.out.si.hbo 0).trans rfl
              have y1 : wr.cell? ⟨bs, 0, none⟩ = some (.slice (some ⟨gs, 0, none⟩) (q + 1) (q + 1)) := by rw [← HQ.out]; exact (blk_cell HJ2.out.box 0).trans rfl
              have y2 : wr.cell? ⟨go, i, none⟩ = some (.slice none 0 0) := (blk_cell HJ2.out.si.hgo i).trans (outC_none HIL.out)
              have y3 : wr.frozen? ⟨go, i, none⟩ = false := blk_frozen HJ2.out.si.hgo i
              by_cases hpl : p < a1.length
              · obtain ⟨a, ha⟩ : ∃ a, a1[p]? = some a := ⟨_, List.getElem?_eq_getElem hpl⟩
                obtain ⟨ad, e2, x0, x1, hplt⟩ := at_arr HCA.out HJ.out.si.hb ha
                cases e2
                have hne : a.f1 ≠ (i : Int) := at_end HSo.out (by rw [← hme, HP.out]; exact ha)
                obtain ⟨y, HY⟩ : ∃ y, Aside0 (a.f1 = y) := ⟨_, ⟨rfl⟩⟩
                rw [HY.out] at x1 hne
                have p1 : (p : Int) < (a1.length : Int) := by omega
                have hne2 : (y == (i : Int)) = false := by simpa using hne
                clear ha hplt hme hpl HJ
                go_wp2
                have HPut := Aside0.mk (HJ2.out.put HIL.out)
                rw [HQ.out] at HPut
                go_roundw
                case rel => exact ⟨i + 1, by rw [HLo.out], by rw [HW.out], ⟨HIL.out⟩, _, HPut⟩
                case measure => exact meas_lt (Int.ofNat_lt.1 HLT.out) HW.out
              · have p1 : ¬ (p : Int) < (a1.length : Int) := by omega
                clear hme hpl HJ
                go_wp2
                have HPut := Aside0.mk (HJ2.out.put HIL.out)
                rw [HQ.out] at HPut
                go_roundw
                case rel => exact ⟨i + 1, by rw [HLo.out], by rw [HW.out], ⟨HIL.out⟩, _, HPut⟩
                case measure => exact meas_lt (Int.ofNat_lt.1 HLT.out) HW.out
      · have hi : i = l0.length := by have := HI.out; omega
        subst hi
        have y0 : wr.cell? ⟨bo, 0, none⟩ = some (.slice (some ⟨go, 0, none⟩) l0.length l0.length) := (blk_cell HSI.out.hbo 0).trans rfl
        go_wp2
        go_ret3
        have hb12 := below_step HB1.out HB2.out
        exact ⟨_, rfl, Kd.S_lower (HSI.out.done HFw.out HN.out) hb12.size, below_step hb12 HSI.out.hb⟩
  · have hr : (r1, r2, r3) = (([] : List (List Int)), a2, a3) := by rw [← h]; unfold setsF; rw [ha, if_neg he]
    cases hr
    clear hr0 hc0 hr1 hc1 h ha
    go_enter Try.func31, Try.ntmps31
    go_wp2_with (go_at_call 18; (refine HArr.out.mono ?_); rintro e w1 ⟨va, rfl, ho, hb⟩; have HB1 := Aside0.mk hb; clear ho hb)
    go_ret3
    exact ⟨_, rfl, Kd.S_nil _ _ _ _ _, HB1.out⟩
end Go.Proofs.Ytkbfijkohngjjaa.QOrder

/- TableDomains, of plain numbers and lists: what the program tells of a domain (Has, Share, Longest) is what the document tells. Conditions: none. -/
import Derived.Test.YtiacikmignjdoaaTableDomainsS
import Derived.Test.YtiacikmignjdoaaTableDomainsH
import Derived.Test.YtiacikmignjdoaaTableDomainsO
import Derived.Test.YtiacikmignjdoaaTableDomainsSh
import Derived.Test.YtiacikmignjdoaaTableDomainsLo
set_option linter.unusedVariables false
set_option linter.unusedSimpArgs false
set_option linter.unusedSectionVars false
namespace Go.Proofs.Ytiacikmignjdoaa.STableDomains
open Go.RowKit Go.Proofs.Ytiacikmignjdoaa.QTableDomains Go.Proofs.Ytiacikmignjdoaa.KTableDomains Go.Proofs.YtiacikmignjdoaaW.PrintWords Go.Proofs.YtiacikmignjdoaaW.PrintLast Go.Proofs.YtiacikmignjdoaaW.PrintMore Go.Proofs.Ytiacikmignjdoaa.Kin Go.Proofs.Ytiacikmignjdoaa.CTableDomains

theorem good {s : S48} (h : W48 s) : G48 s := ⟨wf_i64 h.1, wf_u64 h.2.1.1, wf_u64 h.2.1.2, (wf_u64 h.2.2).1, (wf_u64 h.2.2).2⟩

theorem awake {k : Nat} (hk : 30 ≤ k) : rotalaw16_awake.f k = some true :=
  at_rounds (g := rotalaw16_awake.f) rotalaw16_awake.mono hk (by decide +kernel)

theorem same_l0 (xs : List Int) (hx : xs.length ≤ 64) : ∀ (n i k : Nat), i + n = xs.length → n < k → rotalaw16_sameInts.l0 k xs xs (i : Int) = some true := by
  intro n
  induction n with
  | zero =>
    intro i k hi hk
    obtain ⟨k, rfl⟩ : ∃ m, k = m + 1 := ⟨k - 1, by omega⟩
    simp only [rotalaw16_sameInts.l0]
    rw [if_neg (show ¬ (i : Int) < (xs.length : Int) by omega)]
  | succ n ih =>
    intro i k hi hk
    obtain ⟨k, rfl⟩ : ∃ m, k = m + 1 := ⟨k - 1, by omega⟩
    simp only [rotalaw16_sameInts.l0]
    rw [if_pos (show (i : Int) < (xs.length : Int) by omega), if_pos (show 0 ≤ (i : Int) by omega), if_pos (show (i : Int) < (xs.length : Int) by omega), if_pos trivial, wrap1 (show (i : Int) < 9223372036854775807 by omega)]
    exact ih (i + 1) k (by omega) (by omega)

theorem same_f (xs : List Int) (hx : xs.length ≤ 64) (k : Nat) (hk : 65 ≤ k) : rotalaw16_sameInts.f k xs xs = some true := by
  unfold rotalaw16_sameInts.f
  rw [if_pos rfl]
  exact same_l0 xs hx xs.length 0 k (by omega) (by omega)

section
variable {F : Int} {ls : List (List S48)} (hg : ∀ l ∈ ls, ∀ s ∈ l, G48 s)
include hg

theorem looked_d (d : Int) (k : Nat) (hk : 140000 ≤ k) : rotaref16_looked.f k F ls d 16 = some (mayS F ls 0 d) := by
  rw [looked_f F ls hg d _ k hk]
  unfold mayS
  by_cases c : (checkS F 16 ls).2.2 = 0
  · have hn := (check_ok c).n
    rw [if_pos c, if_pos c]
    congr 1
    by_cases c2 : d < 0 ∨ d ≥ 16
    · rw [if_pos c2, if_pos (by omega)]
    · rw [if_neg c2, if_neg (by omega)]
  · rw [if_neg c, if_neg c]

theorem refHas_l0 (ho : OkT F 16 ls) (t d : Int) (ht : 0 ≤ t) : ∀ (r : List (List S48)) (p : Nat) (acc : List Int) (k : Nat), ls.drop p = r → acc.length ≤ p → 1025 + r.length < k →
    rotaref16_has.l0 k t d acc (p : Int) F ls = some (acc ++ hasL (t % F) d r p) := by
  intro r
  have hn := ho.n
  induction r with
  | nil =>
    intro p acc k hd ha hk
    obtain ⟨k, rfl⟩ : ∃ m, k = m + 1 := ⟨k - 1, by omega⟩
    have := drop_nil hd
    simp only [rotaref16_has.l0]
    rw [if_neg (show ¬ (p : Int) < (ls.length : Int) by omega)]
    simp [hasL]
  | cons l r ih =>
    intro p acc k hd ha hk
    obtain ⟨hi, hr, hd'⟩ := rdL_drop hd
    simp only [List.length_cons] at hk
    obtain ⟨k, rfl⟩ : ∃ m, k = m + 1 := ⟨k - 1, by omega⟩
    simp only [rotaref16_has.l0]
    rw [if_pos (show (p : Int) < (ls.length : Int) by omega), refSlot_f t F ls ht ho hg (p : Int) (by omega) (by omega) k (by omega)]
    have hpr : proc ls (p : Int) = l := hr
    simp only [Option.bind_some, hpr]
    rw [wrap1 (show (p : Int) < 9223372036854775807 by omega)]
    have hp1 : ((p + 1 : Nat) : Int) = (p : Int) + 1 := by omega
    unfold refOut
    cases hs : slotL (t % F) l with
    | none =>
      have hb : hasB (t % F) d l = false := by simp [hasB, hs]
      simp only [Bool.false_eq_true, if_false]
      rw [ih (p + 1) acc k hd' (by omega) (by omega)]
      simp [hasL, hb, hp1]
    | some s =>
      simp only [if_true]
      by_cases c : s.f0 = d
      · have hb : hasB (t % F) d l = true := by simp [hasB, hs, c]
        rw [if_pos c, if_pos (by omega), ih (p + 1) (acc ++ [(p : Int)]) k hd' (by simp; omega) (by omega)]
        simp [hasL, hb, hp1]
      · have hb : hasB (t % F) d l = false := by simp [hasB, hs, c]
        rw [if_neg c, ih (p + 1) acc k hd' (by omega) (by omega)]
        simp [hasL, hb, hp1]

theorem refHas_f (t d : Int) (ht : 0 ≤ t) (k : Nat) (hk : 140000 ≤ k) : rotaref16_Has.f k F ls t d = some (if mayS F ls 0 d = 0 then (hasS F ls t d, 0) else ([], mayS F ls 0 d)) := by
  unfold rotaref16_Has.f
  rw [looked_d hg d k hk]
  simp only [Option.bind_some]
  by_cases c : mayS F ls 0 d = 0
  · obtain ⟨ho, _⟩ := may_ok c
    have hn := ho.n
    rw [if_pos c, if_pos c]
    unfold rotaref16_has.f
    have := refHas_l0 hg ho t d ht ls 0 [] k rfl (by simp) (by omega)
    rw [show ((0 : Nat) : Int) = 0 from rfl] at this
    rw [this]
    simp [hasS]
  · rw [if_neg c, if_neg c]
omit hg

def gS (a : Int) (s : S48) : Int := IntKind.u64.wrap (IntKind.u64.wrap (a + s.f1.f1) - s.f2)
def gL (a : Int) (s : S48) : Int := if IntKind.u64.wrap (s.f1.f1 - s.f2) > a then IntKind.u64.wrap (s.f1.f1 - s.f2) else a
theorem gS_eq : gS = fun a s => IntKind.u64.wrap (a + IntKind.u64.wrap (s.f1.f1 - s.f2)) := by
  funext a s
  unfold gS
  simp only [IntKind.wrap_u64]
  omega
theorem gL_eq : gL = fun a s => mx a (IntKind.u64.wrap (s.f1.f1 - s.f2)) := by
  funext a s
  rfl

/-- A fold over what a domain has from list p on. -/
def foldD (g : Int → S48 → Int) (d a : Int) (r : List (List S48)) : Int := (ofDom d r).foldl g a
theorem foldD_cons (g : Int → S48 → Int) (d a : Int) (l : List S48) (r : List (List S48)) : foldD g d a (l :: r) = foldD g d ((l.filter (fun s => s.f0 == d)).foldl g a) r := by
  simp [foldD, ofDom, List.filter_append, List.foldl_append]

theorem refShare_l1 (d : Int) (p : Nat) (hp : p < ls.length) (l : List S48) (hl : rd_L4 ls (p : Int) = l) (hlen : l.length ≤ 1024) : ∀ (r : List S48) (i : Nat) (a : Int) (k : Nat), l.drop i = r → r.length < k →
    rotaref16_Share.l1 k d a (p : Int) (i : Int) F ls = rotaref16_Share.l0 (k - (r.length + 1)) d ((r.filter (fun s => s.f0 == d)).foldl gS a) (wrap64 ((p : Int) + 1)) F ls := by
  intro r
  induction r with
  | nil =>
    intro i a k hd hk
    obtain ⟨k, rfl⟩ : ∃ m, k = m + 1 := ⟨k - 1, by omega⟩
    have := drop_nil hd
    simp only [rotaref16_Share.l1]
    rw [if_pos (show 0 ≤ (p : Int) by omega), if_pos (show (p : Int) < (ls.length : Int) by omega), hl, if_neg (show ¬ (i : Int) < (l.length : Int) by omega)]
    simp
  | cons s r ih =>
    intro i a k hd hk
    obtain ⟨hi, hr, hd'⟩ := rd_drop hd
    simp only [List.length_cons] at hk
    obtain ⟨k, rfl⟩ : ∃ m, k = m + 1 := ⟨k - 1, by omega⟩
    simp only [rotaref16_Share.l1]
    rw [if_pos (show 0 ≤ (p : Int) by omega), if_pos (show (p : Int) < (ls.length : Int) by omega), hl, if_pos (show (i : Int) < (l.length : Int) by omega), if_pos (show 0 ≤ (i : Int) by omega), hr, wrap1 (show (i : Int) < 9223372036854775807 by omega)]
    have hk' : k + 1 - ((s :: r).length + 1) = k - (r.length + 1) := by simp
    rw [hk']
    by_cases c : s.f0 = d
    · rw [if_pos c, ih (i + 1) _ k hd' (by omega)]
      simp [List.filter_cons, c, gS]
    · rw [if_neg c, ih (i + 1) _ k hd' (by omega)]
      simp [List.filter_cons, c]

theorem refShare_l0 (ho : OkT F 16 ls) (d : Int) : ∀ (r : List (List S48)) (p : Nat) (a : Int) (k : Nat), ls.drop p = r → 2000 * (r.length + 1) < k →
    rotaref16_Share.l0 k d a (p : Int) F ls = some (foldD gS d a r, 0) := by
  have hn := ho.n
  intro r
  induction r with
  | nil =>
    intro p a k hd hk
    obtain ⟨k, rfl⟩ : ∃ m, k = m + 1 := ⟨k - 1, by omega⟩
    have := drop_nil hd
    simp only [rotaref16_Share.l0]
    rw [if_neg (show ¬ (p : Int) < (ls.length : Int) by omega)]
    rfl
  | cons l r ih =>
    intro p a k hd hk
    obtain ⟨hi, hr, hd'⟩ := rdL_drop hd
    simp only [List.length_cons] at hk
    obtain ⟨k, rfl⟩ : ∃ m, k = m + 1 := ⟨k - 1, by omega⟩
    have hmem : l ∈ ls := List.mem_of_mem_drop (by rw [hd]; exact List.mem_cons_self)
    have hlen := (ho.p l hmem).1
    have h1 := refShare_l1 (F := F) d p hi l hr hlen l 0 a k rfl (by omega)
    rw [show ((0 : Nat) : Int) = 0 from rfl] at h1
    simp only [rotaref16_Share.l0]
    rw [if_pos (show (p : Int) < (ls.length : Int) by omega), h1, wrap1 (show (p : Int) < 9223372036854775807 by omega), ih (p + 1) _ _ hd' (by omega), foldD_cons]

theorem refLongest_l1 (d : Int) (p : Nat) (hp : p < ls.length) (l : List S48) (hl : rd_L4 ls (p : Int) = l) (hlen : l.length ≤ 1024) : ∀ (r : List S48) (i : Nat) (a : Int) (k : Nat), l.drop i = r → r.length < k →
    rotaref16_Longest.l1 k d a (p : Int) (i : Int) F ls = rotaref16_Longest.l0 (k - (r.length + 1)) d ((r.filter (fun s => s.f0 == d)).foldl gL a) (wrap64 ((p : Int) + 1)) F ls := by
  intro r
  induction r with
  | nil =>
    intro i a k hd hk
    obtain ⟨k, rfl⟩ : ∃ m, k = m + 1 := ⟨k - 1, by omega⟩
    have := drop_nil hd
    simp only [rotaref16_Longest.l1]
    rw [if_pos (show 0 ≤ (p : Int) by omega), if_pos (show (p : Int) < (ls.length : Int) by omega), hl, if_neg (show ¬ (i : Int) < (l.length : Int) by omega)]
    simp
  | cons s r ih =>
    intro i a k hd hk
    obtain ⟨hi, hr, hd'⟩ := rd_drop hd
    simp only [List.length_cons] at hk
    obtain ⟨k, rfl⟩ : ∃ m, k = m + 1 := ⟨k - 1, by omega⟩
    simp only [rotaref16_Longest.l1]
    rw [if_pos (show 0 ≤ (p : Int) by omega), if_pos (show (p : Int) < (ls.length : Int) by omega), hl, if_pos (show (i : Int) < (l.length : Int) by omega), if_pos (show 0 ≤ (i : Int) by omega), hr, wrap1 (show (i : Int) < 9223372036854775807 by omega)]
    have hk' : k + 1 - ((s :: r).length + 1) = k - (r.length + 1) := by simp
    rw [hk']
    by_cases c : s.f0 = d
    · rw [if_pos c]
      by_cases c2 : IntKind.u64.wrap (s.f1.f1 - s.f2) > a
      · have hgl : gL a s = IntKind.u64.wrap (s.f1.f1 - s.f2) := if_pos c2
        rw [if_pos c2, ih (i + 1) _ k hd' (by omega)]
        simp [List.filter_cons, c, hgl]
      · have hgl : gL a s = a := if_neg c2
        rw [if_neg c2, ih (i + 1) _ k hd' (by omega)]
        simp [List.filter_cons, c, hgl]
    · rw [if_neg c, ih (i + 1) _ k hd' (by omega)]
      simp [List.filter_cons, c]

theorem refLongest_l0 (ho : OkT F 16 ls) (d : Int) : ∀ (r : List (List S48)) (p : Nat) (a : Int) (k : Nat), ls.drop p = r → 2000 * (r.length + 1) < k →
    rotaref16_Longest.l0 k d a (p : Int) F ls = some (foldD gL d a r, 0) := by
  have hn := ho.n
  intro r
  induction r with
  | nil =>
    intro p a k hd hk
    obtain ⟨k, rfl⟩ : ∃ m, k = m + 1 := ⟨k - 1, by omega⟩
    have := drop_nil hd
    simp only [rotaref16_Longest.l0]
    rw [if_neg (show ¬ (p : Int) < (ls.length : Int) by omega)]
    rfl
  | cons l r ih =>
    intro p a k hd hk
    obtain ⟨hi, hr, hd'⟩ := rdL_drop hd
    simp only [List.length_cons] at hk
    obtain ⟨k, rfl⟩ : ∃ m, k = m + 1 := ⟨k - 1, by omega⟩
    have hmem : l ∈ ls := List.mem_of_mem_drop (by rw [hd]; exact List.mem_cons_self)
    have hlen := (ho.p l hmem).1
    have h1 := refLongest_l1 (F := F) d p hi l hr hlen l 0 a k rfl (by omega)
    rw [show ((0 : Nat) : Int) = 0 from rfl] at h1
    simp only [rotaref16_Longest.l0]
    rw [if_pos (show (p : Int) < (ls.length : Int) by omega), h1, wrap1 (show (p : Int) < 9223372036854775807 by omega), ih (p + 1) _ _ hd' (by omega), foldD_cons]

include hg
theorem refShare_f (d : Int) (k : Nat) (hk : 140000 ≤ k) : rotaref16_Share.f k F ls d = some (if mayS F ls 0 d = 0 then (sumW (ofDom d ls), 0) else (0, mayS F ls 0 d)) := by
  unfold rotaref16_Share.f
  rw [looked_d hg d k hk]
  simp only [Option.bind_some]
  by_cases c : mayS F ls 0 d = 0
  · obtain ⟨ho, _⟩ := may_ok c
    have hn := ho.n
    have h1 := refShare_l0 (F := F) ho d ls 0 0 k rfl (by omega)
    rw [show ((0 : Nat) : Int) = 0 from rfl] at h1
    rw [if_pos c, if_pos c, h1, foldD, gS_eq]
    rfl
  · rw [if_neg c, if_neg c]
theorem refLongest_f (d : Int) (k : Nat) (hk : 140000 ≤ k) : rotaref16_Longest.f k F ls d = some (if mayS F ls 0 d = 0 then (maxW (ofDom d ls), 0) else (0, mayS F ls 0 d)) := by
  unfold rotaref16_Longest.f
  rw [looked_d hg d k hk]
  simp only [Option.bind_some]
  by_cases c : mayS F ls 0 d = 0
  · obtain ⟨ho, _⟩ := may_ok c
    have hn := ho.n
    have h1 := refLongest_l0 (F := F) ho d ls 0 0 k rfl (by omega)
    rw [show ((0 : Nat) : Int) = 0 from rfl] at h1
    rw [if_pos c, if_pos c, h1, foldD, gL_eq]
    rfl
  · rw [if_neg c, if_neg c]
theorem share_w (d : Int) (k : Nat) (hk : 4000 ≤ k) : table_Share.f k F ls d = some (if mayS F ls 0 d = 0 then (sumW (ofDom d ls), 0) else (0, mayS F ls 0 d)) := by
  unfold table_Share.f
  rw [may_f F ls hg 0 d k hk]
  simp only [Option.bind_some]
  by_cases c : mayS F ls 0 d = 0
  · rw [if_pos c, if_pos c]
  · rw [if_neg c, if_neg c]
theorem longest_w (d : Int) (k : Nat) (hk : 4000 ≤ k) : table_Longest.f k F ls d = some (if mayS F ls 0 d = 0 then (maxW (ofDom d ls), 0) else (0, mayS F ls 0 d)) := by
  unfold table_Longest.f
  rw [may_f F ls hg 0 d k hk]
  simp only [Option.bind_some]
  by_cases c : mayS F ls 0 d = 0
  · rw [if_pos c, if_pos c]
  · rw [if_neg c, if_neg c]
end

theorem pure : Pure := by
  intro F ls t p d hF hl ht hp hd
  have hg : ∀ l ∈ ls, ∀ s ∈ l, G48 s := fun l hl' s hs => good ((hl.2 l hl').2 s hs)
  have ht' := (wf_u64 ht).1
  refine ⟨200000, ?_⟩
  unfold rotalaw16_TableDomains.f
  rw [has_f F ls hg t d ht' _ (by omega), refHas_f hg t d ht' _ (by omega), share_w hg d _ (by omega), refShare_f hg d _ (by omega), longest_w hg d _ (by omega), refLongest_f hg d _ (by omega)]
  simp only [Option.bind_some]
  by_cases c : mayS F ls 0 d = 0
  · have hn := (may_ok c).1.n
    have hlen : (hasS F ls t d).length ≤ 64 := by have := hasL_len (t % F) d ls 0; unfold hasS; omega
    simp [c, same_f _ hlen, awake]
  · simp [c, same_f ([] : List Int) (by simp), awake]
end Go.Proofs.Ytiacikmignjdoaa.STableDomains

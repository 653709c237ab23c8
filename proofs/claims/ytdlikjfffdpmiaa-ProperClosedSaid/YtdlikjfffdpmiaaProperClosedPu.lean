/- ProperClosed, of plain numbers and lists: what can be come to has the function's first word, rises, and is closed. Conditions: none. -/
import Derived.Test.YtdlikjfffdpmiaaProperClosedS
import Derived.Test.YtdlikjfffdpmiaaProperK2
import Derived.Test.YtdlikjfffdpmiaaProperK1
set_option linter.unusedVariables false
namespace Go.Proofs.Ytdlikjfffdpmiaa.SProperClosed
open Go.RowKit Go.Proofs.Ytdlikjfffdpmiaa.QProper Go.Proofs.YtdlikjfffdpmiaaW.PrintWords Go.Proofs.YtdlikjfffdpmiaaW.PrintLast Go.Proofs.YtdlikjfffdpmiaaW.PrintMore Go.Proofs.Ytdlikjfffdpmiaa.Kin Go.Proofs.Ytdlikjfffdpmiaa.CProper Go.Proofs.Ytdlikjfffdpmiaa.GProper

theorem awake {k : Nat} (hk : 40 ≤ k) : rotalaw08_awake.f k = some true :=
  at_rounds (g := rotalaw08_awake.f) rotalaw08_awake.mono hk (by decide +kernel)

theorem has_l0 (l : List Int) (x : Int) (hl : (l.length : Int) < 9223372036854775807) : ∀ (d j k : Nat), l.length - j = d → d < k → x ∈ l.drop j → rotalaw08_has.l0 k l x (j : Int) = some true := by
  intro d
  induction d with
  | zero => intro j k hd hk hx; rw [List.drop_eq_nil_of_le (by omega)] at hx; cases hx
  | succ d ih =>
    intro j k hd hk hx
    obtain ⟨k, rfl⟩ : ∃ m, k = m + 1 := ⟨k - 1, by omega⟩
    have hj : j < l.length := by omega
    simp only [rotalaw08_has.l0]
    rw [if_pos (by omega), if_pos (by omega), rd_in hj, wrap1 (by omega)]
    rw [List.drop_eq_getElem_cons hj] at hx
    have e : l.getD j 0 = l[j] := by rw [List.getD_eq_getElem?_getD, List.getElem?_eq_getElem hj]; rfl
    rw [e]
    by_cases h : l[j] = x
    · rw [if_pos h]
    · rw [if_neg h]
      rcases List.mem_cons.1 hx with h1 | h1
      · exact absurd h1.symm h
      · exact ih (j + 1) k (by omega) (by omega) h1
theorem has_ok (l : List Int) (x : Int) (hl : (l.length : Int) < 9223372036854775807) (hx : x ∈ l) (k : Nat) (hk : l.length < k) : rotalaw08_has.f k l x = some true := by
  have := has_l0 l x hl l.length 0 k (by omega) hk (by simpa using hx)
  exact this

theorem closed_l1 (c : List Int) (fs : List S34) (ts : List S58) {L : List Int} (hL : L.length ≤ 4096) (i : Int) (hi : wrap64 (i + 1) = i + 1) (t : List Int) (ht : t.length ≤ 2) (hm : ∀ y ∈ t, y ∈ L) : ∀ (d j k : Nat), t.length - j = d → 5000 ≤ k →
    rotalaw08_ProperClosed.l1 (k + d + 1) L i t (j : Int) c fs ts = rotalaw08_ProperClosed.l0 k L (i + 1) c fs ts := by
  intro d
  induction d with
  | zero =>
    intro j k hd hk
    rw [Nat.add_zero, rotalaw08_ProperClosed.l1, if_neg (by omega), hi]
  | succ d ih =>
    intro j k hd hk
    have hj : j < t.length := by omega
    show rotalaw08_ProperClosed.l1 (k + d + 1 + 1) L i t (j : Int) c fs ts = _
    rw [rotalaw08_ProperClosed.l1, if_pos (by omega), if_pos (by omega)]
    have hy : rd t (j : Int) ∈ t := by rw [rd_in hj, List.getD_eq_getElem?_getD, List.getElem?_eq_getElem hj]; exact List.getElem_mem _
    rw [has_ok L _ (by omega) (hm _ hy) _ (by omega)]
    rw [Option.bind_some, if_pos rfl, wrap1 (by omega)]
    exact ih (j + 1) k (by omega) hk
section
variable {c : List Int} {fs : List S34} {ts : List S58} (hc : ∀ x ∈ c, 0 ≤ x ∧ x < 4294967296) (F : Fine c fs ts)
  {L : List Int} (hL : L.length ≤ 4096) (hinc : L.Pairwise (· < ·)) (hcl : ∀ x ∈ L, ∀ y ∈ nx c x, y ∈ L) (hran : ∀ x ∈ L, 0 ≤ x ∧ x < c.length)
include hc F hL hinc hcl hran
theorem closed_l0 : ∀ (d i k : Nat), L.length - i = d → 30000 + 10 * d ≤ k → rotalaw08_ProperClosed.l0 k L (i : Int) c fs ts = some true := by
  intro d
  induction d with
  | zero =>
    intro i k hd hk
    obtain ⟨k, rfl⟩ : ∃ m, k = m + 1 := ⟨k - 1, by omega⟩
    rw [rotalaw08_ProperClosed.l0, if_neg (by omega)]
  | succ d ih =>
    intro i k hd hk
    obtain ⟨k, rfl⟩ : ∃ m, k = m + 1 := ⟨k - 1, by omega⟩
    have hi : i < L.length := by omega
    have hx : rd L (i : Int) ∈ L := by rw [rd_in hi, List.getD_eq_getElem?_getD, List.getElem?_eq_getElem hi]; exact List.getElem_mem _
    have hr := hran _ hx
    rw [rotalaw08_ProperClosed.l0, if_pos (by omega), if_pos (by omega), Next_ok c fs ts hc _ k (by omega)]
    have hna : nextAll c fs ts (rd L (i : Int)) = (nx c (rd L (i : Int)), 0) := by
      unfold nextAll
      rw [ite_chk (by rw [F.chk]), if_neg (by omega)]
      rfl
    rw [hna]
    simp only [Option.bind_some, if_true]
    have ht : (nx c (rd L (i : Int))).length ≤ 2 := nexts_len _ _
    have go : ∀ k, 20000 + 10 * d ≤ k → 30000 + 10 * d ≤ k + 5 → rotalaw08_ProperClosed.j1 (k + 10) L (i : Int) (nx c (rd L (i : Int))) false c fs ts = some true := by
      intro k _ hk2
      rw [show k + 10 = (k + 9) + 1 from rfl, rotalaw08_ProperClosed.j1, if_neg (by simp)]
      obtain ⟨q, hq⟩ : ∃ q, k + 9 = q + (nx c (rd L (i : Int))).length + 1 := ⟨k + 8 - (nx c (rd L (i : Int))).length, by omega⟩
      have := closed_l1 c fs ts hL (i : Int) (wrap1 (by omega)) (nx c (rd L (i : Int))) ht (hcl _ hx) (nx c (rd L (i : Int))).length 0 q (by omega) (by omega)
      rw [show ((0 : Nat) : Int) = 0 from rfl] at this
      rw [hq, this]
      exact ih (i + 1) q (by omega) (by omega)
    obtain ⟨k, rfl⟩ : ∃ m, k = m + 10 := ⟨k - 10, by omega⟩
    by_cases h0 : (i : Int) > 0
    · rw [if_pos h0]
      have hw : wrap64 ((i : Int) - 1) = ((i - 1 : Nat) : Int) := by rw [IntWalk.wrap64_in _ (by omega)]; omega
      rw [hw, if_pos (by omega), if_pos (by omega)]
      have hlt : rd L ((i - 1 : Nat) : Int) < rd L (i : Int) := by
        have h1 : i - 1 < L.length := by omega
        rw [rd_in h1, rd_in hi, List.getD_eq_getElem?_getD, List.getD_eq_getElem?_getD, List.getElem?_eq_getElem h1, List.getElem?_eq_getElem hi]
        exact (List.pairwise_iff_getElem.1 hinc) (i - 1) i h1 hi (by omega)
      rw [decide_eq_false (by omega)]
      exact go k (by omega) (by omega)
    · rw [if_neg h0]
      exact go k (by omega) (by omega)
end

theorem pure : Pure := by
  intro c fs ts f hc hf ht ha
  have hc' : ∀ x ∈ c, 0 ≤ x ∧ x < 4294967296 := fun x hx => by have := wf_u32 (hc.2 x hx); omega
  refine ⟨100000, ?_⟩
  have hfn := function_ok c fs ts hc' f 100000 (by omega)
  have hno : ∀ e, proper_function.f 100000 c fs ts f = some e → e ≠ 0 → rotalaw08_ProperClosed.f 100000 c fs ts f = some true := by
    intro e he hne
    unfold rotalaw08_ProperClosed.f proper_Reach.f
    rw [he]
    simp only [Option.bind_some]
    rw [if_neg hne]
    simp only [Option.bind_some]
    rw [if_neg hne, awake (by omega)]
    simp
  by_cases h : (checkAll (gW c fs ts) c fs ts).2 = 0
  · obtain ⟨e, F⟩ := fine_of h
    rw [ite_chk h] at hfn
    by_cases h1 : f < 0 ∨ (fs.length : Int) ≤ f
    · rw [if_pos h1] at hfn
      exact hno 1 hfn (by decide)
    · rw [if_neg h1] at hfn
      obtain ⟨L, hL, hinc, hmem, hran⟩ := reach_ok hc' F f (by omega) (by omega)
      have hch := chain_ge _ fs 0 F.chain _ (List.mem_of_getElem? (fn_at (show 0 ≤ f by omega) (show f < fs.length by omega)))
      have hnc := F.nc
      have hlen : L.length ≤ 4096 := nodup_len 4096 0 L (hinc.imp (by intro a b h; omega)) (fun x hx => by have := hran x hx; omega)
      unfold rotalaw08_ProperClosed.f proper_Reach.f
      rw [hfn]
      simp only [Option.bind_some, if_true]
      rw [hL 100000 (by omega)]
      simp only [Option.bind_some, if_true]
      rw [if_pos (by omega), if_pos (by omega), has_ok L _ (by omega) ((hmem _).2 .base) _ (by omega)]
      simp only [Option.bind_some, if_true]
      have := closed_l0 hc' F hlen hinc (fun x hx y hy => (hmem y).2 (((hmem x).1 hx).step hy)) (fun x hx => by have := hran x hx; omega) L.length 0 100000 (by omega) (by omega)
      exact this
  · rw [if_pos h] at hfn
    exact hno _ hfn h
end Go.Proofs.Ytdlikjfffdpmiaa.SProperClosed

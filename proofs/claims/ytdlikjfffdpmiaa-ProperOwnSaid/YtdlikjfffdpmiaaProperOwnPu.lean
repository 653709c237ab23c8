/- ProperOwn, of plain numbers and lists: a program that is handed in stays as it is; what is told may be spoilt. Conditions: none. -/
import Derived.Test.YtdlikjfffdpmiaaProperOwnS
import Derived.Test.YtdlikjfffdpmiaaProperCCB
set_option linter.unusedVariables false
namespace Go.Proofs.Ytdlikjfffdpmiaa.SProperOwn
open Go.RowKit Go.Proofs.Ytdlikjfffdpmiaa.QProper Go.Proofs.YtdlikjfffdpmiaaW.PrintWords Go.Proofs.YtdlikjfffdpmiaaW.PrintLast Go.Proofs.YtdlikjfffdpmiaaW.PrintMore Go.Proofs.Ytdlikjfffdpmiaa.Kin Go.Proofs.Ytdlikjfffdpmiaa.CProper

theorem awake {k : Nat} (hk : 40 ≤ k) : rotalaw08_awake.f k = some true :=
  at_rounds (g := rotalaw08_awake.f) rotalaw08_awake.mono hk (by decide +kernel)

section
variable {c : List Int} {fs : List S34} {ts : List S58} {f r : Int} {K : Nat} (hcl : c.length ≤ 140737488351232) (hfl : fs.length ≤ 140737488351232) (hn : ∀ k, K ≤ k → rotalaw08_ProperOwn.l0 k f (wrap64 (r + 1)) c fs ts c fs ts = some true)
include hfl hn
theorem own_l4 : ∀ (d i k : Nat), fs.length - i = d → K + d + 1 ≤ k → rotalaw08_ProperOwn.l4 k f r (i : Int) c fs ts c fs ts = some true := by
  intro d
  induction d with
  | zero =>
    intro i k hd hk
    obtain ⟨k, rfl⟩ : ∃ m, k = m + 1 := ⟨k - 1, by omega⟩
    rw [rotalaw08_ProperOwn.l4, if_neg (by omega)]
    exact hn k (by omega)
  | succ d ih =>
    intro i k hd hk
    obtain ⟨k, rfl⟩ : ∃ m, k = m + 1 := ⟨k - 1, by omega⟩
    rw [rotalaw08_ProperOwn.l4, if_pos (by omega), if_pos (by omega), if_pos (by omega), if_neg (by simp), wrap1 (by omega)]
    exact ih (i + 1) k (by omega) (by omega)
include hcl
theorem own_l3 : ∀ (d i k : Nat), c.length - i = d → K + fs.length + d + 2 ≤ k → rotalaw08_ProperOwn.l3 k f r (i : Int) c fs ts c fs ts = some true := by
  intro d
  induction d with
  | zero =>
    intro i k hd hk
    obtain ⟨k, rfl⟩ : ∃ m, k = m + 1 := ⟨k - 1, by omega⟩
    rw [rotalaw08_ProperOwn.l3, if_neg (by omega)]
    exact own_l4 hfl hn fs.length 0 k (by omega) (by omega)
  | succ d ih =>
    intro i k hd hk
    obtain ⟨k, rfl⟩ : ∃ m, k = m + 1 := ⟨k - 1, by omega⟩
    rw [rotalaw08_ProperOwn.l3, if_pos (by omega), if_pos (by omega), if_pos (by omega), if_pos rfl, wrap1 (by omega)]
    exact ih (i + 1) k (by omega) (by omega)
theorem own_l2 : ∀ (d i k : Nat) (l : List Int), l.length ≤ 5000 → l.length - i = d → K + fs.length + c.length + d + 3 ≤ k → rotalaw08_ProperOwn.l2 k f r l (i : Int) c fs ts c fs ts = some true := by
  intro d
  induction d with
  | zero =>
    intro i k l hl hd hk
    obtain ⟨k, rfl⟩ : ∃ m, k = m + 1 := ⟨k - 1, by omega⟩
    rw [rotalaw08_ProperOwn.l2, if_neg (by omega)]
    exact own_l3 hcl hfl hn c.length 0 k (by omega) (by omega)
  | succ d ih =>
    intro i k l hl hd hk
    obtain ⟨k, rfl⟩ : ∃ m, k = m + 1 := ⟨k - 1, by omega⟩
    rw [rotalaw08_ProperOwn.l2, if_pos (by omega), if_pos (by omega), wrap1 (by omega)]
    exact ih (i + 1) k _ (by simpa using hl) (by rw [List.length_set]; omega) (by omega)
theorem own_l1 (b : List Int) (hb : b.length ≤ 5000) : ∀ (d i k : Nat) (l : List Int), l.length ≤ 5000 → l.length - i = d → K + fs.length + c.length + b.length + d + 4 ≤ k → rotalaw08_ProperOwn.l1 k f r l b (i : Int) c fs ts c fs ts = some true := by
  intro d
  induction d with
  | zero =>
    intro i k l hl hd hk
    obtain ⟨k, rfl⟩ : ∃ m, k = m + 1 := ⟨k - 1, by omega⟩
    rw [rotalaw08_ProperOwn.l1, if_neg (by omega)]
    exact own_l2 hcl hfl hn b.length 0 k b hb (by omega) (by omega)
  | succ d ih =>
    intro i k l hl hd hk
    obtain ⟨k, rfl⟩ : ∃ m, k = m + 1 := ⟨k - 1, by omega⟩
    rw [rotalaw08_ProperOwn.l1, if_pos (by omega), if_pos (by omega), wrap1 (by omega)]
    exact ih (i + 1) k _ (by simpa using hl) (by rw [List.length_set]; omega) (by omega)
end

theorem own_l0 (c : List Int) (fs : List S34) (ts : List S58) (hc : ∀ x ∈ c, 0 ≤ x ∧ x < 4294967296) (hcl : c.length ≤ 140737488351232) (hfl : fs.length ≤ 140737488351232) (f r : Int) (h2 : r < 2) (K : Nat)
    (hn : ∀ k, K ≤ k → rotalaw08_ProperOwn.l0 k f (wrap64 (r + 1)) c fs ts c fs ts = some true) (k : Nat) (hk : K + fs.length + c.length + 300010000 ≤ k) : rotalaw08_ProperOwn.l0 k f r c fs ts c fs ts = some true := by
  obtain ⟨L, hl, he, hL⟩ := Calls_both c fs ts hc f true
  obtain ⟨M, hm, he2, hM⟩ := Reach_both c fs ts hc f
  obtain ⟨k, rfl⟩ : ∃ m, k = m + 2 := ⟨k - 2, by omega⟩
  obtain ⟨a1, a2⟩ := hL (k + 1) (by omega)
  obtain ⟨b1, b2⟩ := hM (k + 1) (by omega)
  rw [rotalaw08_ProperOwn.l0, if_pos h2, a1, a2, b1, b2]
  simp only [Option.bind_some]
  rw [if_pos (by rw [he, he2]), same_ok _ (by omega) _ (by omega)]
  simp only [Option.bind_some, if_true]
  rw [same_ok _ (by omega) _ (by omega)]
  simp only [Option.bind_some, if_true]
  rw [rotalaw08_ProperOwn.j1, if_neg (by simp)]
  exact own_l1 hcl hfl hn M.1 (by omega) L.1.length 0 k L.1 (by omega) (by omega) (by omega)

theorem pure : Pure := by
  intro c fs ts f hc hf ht ha
  have hc' : ∀ x ∈ c, 0 ≤ x ∧ x < 4294967296 := fun x hx => by have := wf_u32 (hc.2 x hx); omega
  have hcl : c.length ≤ 140737488351232 := by have := hc.1.2; omega
  have hfl : fs.length ≤ 140737488351232 := by have := hf.1.2; omega
  refine ⟨2 * (fs.length + c.length + 300010000) + 100, ?_⟩
  unfold rotalaw08_ProperOwn.f
  rw [if_pos (by have := hc.1.2; simp; omega), if_pos (by have := hf.1.2; simp; omega)]
  rw [List.nil_append, List.nil_append]
  refine own_l0 c fs ts hc' hcl hfl f 0 (by omega) (fs.length + c.length + 300010000 + 100) (fun k hk => ?_) _ (by omega)
  refine own_l0 c fs ts hc' hcl hfl f _ (by decide +kernel) 100 (fun k hk => ?_) _ (by omega)
  obtain ⟨k, rfl⟩ : ∃ m, k = m + 1 := ⟨k - 1, by omega⟩
  rw [rotalaw08_ProperOwn.l0, if_neg (by decide +kernel), awake (by omega)]
  rfl
end Go.Proofs.Ytdlikjfffdpmiaa.SProperOwn

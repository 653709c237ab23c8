/- ProperStays, of plain numbers and lists: going on as any numbers choose, no word is another function's. Conditions: none. -/
import Derived.Test.YtdlikjfffdpmiaaProperStaysS
import Derived.Test.YtdlikjfffdpmiaaProperK2
import Derived.Test.YtdlikjfffdpmiaaProperK1
set_option linter.unusedVariables false
namespace Go.Proofs.Ytdlikjfffdpmiaa.SProperStays
open Go.RowKit Go.Proofs.Ytdlikjfffdpmiaa.QProper Go.Proofs.YtdlikjfffdpmiaaW.PrintWords Go.Proofs.YtdlikjfffdpmiaaW.PrintLast Go.Proofs.YtdlikjfffdpmiaaW.PrintMore Go.Proofs.Ytdlikjfffdpmiaa.Kin Go.Proofs.Ytdlikjfffdpmiaa.CProper

theorem awake {k : Nat} (hk : 40 ≤ k) : rotalaw08_awake.f k = some true :=
  at_rounds (g := rotalaw08_awake.f) rotalaw08_awake.mono hk (by decide +kernel)

section
variable {c : List Int} {fs : List S34} {ts : List S58} (hc : ∀ x ∈ c, 0 ≤ x ∧ x < 4294967296) (F : Fine c fs ts) {f : Int} (f0 : 0 ≤ f) (f1 : f < fs.length) {g : S34} (hg : rd_T34 fs f = g)
include hc F f0 f1 hg
theorem in_here (a : Int) (h0 : g.f0 ≤ a) (h1 : a < g.f1) (k : Nat) (hk : 20000 ≤ k) : proper_In.f k c fs ts a = some (f, 0) ∧ proper_Next.f k c fs ts a = some (nx c a, 0) ∧ ∀ y ∈ nx c a, g.f0 ≤ y ∧ y < g.f1 := by
  have hf := fn_at f0 f1
  rw [hg] at hf
  have hin := nx_in F hf
  have hch := chain_ge _ fs 0 F.chain _ (List.mem_of_getElem? hf)
  have he : (checkAll (gW c fs ts) c fs ts).2 = 0 := by
    rw [F.chk]
  have hi := inn_at _ fs 0 F.chain f.toNat g a 0 hf h0 h1
  refine ⟨?_, ?_, hin a h0 h1⟩
  · rw [in_ok c fs ts hc a k hk, ite_chk he, if_neg (by omega), hi]
    have : (0 : Int) + f.toNat = f := by omega
    rw [this]
  · rw [Next_ok c fs ts hc a k hk]
    unfold nextAll
    rw [ite_chk he, if_neg (by omega)]
    rfl
theorem stays_l0 (w : List Int) (hw : ∀ x ∈ w, 0 ≤ x ∧ x ≤ 255) (hl : (w.length : Int) < 9223372036854775807) : ∀ (d i : Nat) (a : Int) (k : Nat), w.length - i = d → g.f0 ≤ a → a < g.f1 → 30000 + 2 * d ≤ k →
    rotalaw08_ProperStays.l0 k f w a (i : Int) c fs ts = some true := by
  intro d
  induction d with
  | zero =>
    intro i a k hd h0 h1 hk
    obtain ⟨k, rfl⟩ : ∃ m, k = m + 1 := ⟨k - 1, by omega⟩
    obtain ⟨h2, _, _⟩ := in_here hc F f0 f1 hg a h0 h1 k (by omega)
    simp only [rotalaw08_ProperStays.l0]
    rw [if_neg (by omega), h2]
    simp
  | succ d ih =>
    intro i a k hd h0 h1 hk
    obtain ⟨k, rfl⟩ : ∃ m, k = m + 2 := ⟨k - 2, by omega⟩
    obtain ⟨h2, h3, h4⟩ := in_here hc F f0 f1 hg a h0 h1 (k + 1) (by omega)
    rw [rotalaw08_ProperStays.l0]
    rw [if_pos (by omega), h2, h3]
    simp only [Option.bind_some, if_true]
    rw [rotalaw08_ProperStays.j2]
    rw [if_neg (by simp)]
    by_cases hn : ((nx c a).length : Int) = 0
    · rw [if_pos hn, awake (by omega)]; rfl
    · rw [if_neg hn]
      have hi : i < w.length := by omega
      have hm : rd w (i : Int) ∈ w := by rw [rd_in hi, List.getD_eq_getElem?_getD, List.getElem?_eq_getElem hi]; exact List.getElem_mem _
      obtain ⟨b0, b1⟩ := hw _ hm
      have hwr : wrap64 (rd w (i : Int)) = rd w (i : Int) := IntWalk.wrap64_in _ (by omega)
      rw [hwr, Int.tmod_eq_emod_of_nonneg b0]
      have hp : (0 : Int) < (nx c a).length := by omega
      have q0 := Int.emod_nonneg (rd w (i : Int)) (show ((nx c a).length : Int) ≠ 0 by omega)
      have q1 := Int.emod_lt_of_pos (rd w (i : Int)) hp
      rw [if_pos (by omega), if_pos (by omega), if_pos q0, if_pos q1, wrap1 (by omega)]
      have hy : rd (nx c a) (rd w (i : Int) % ((nx c a).length : Int)) ∈ nx c a := by
        unfold rd
        rw [List.getD_eq_getElem?_getD, List.getElem?_eq_getElem (show (w.getD (i : Int).toNat 0 % ((nx c a).length : Int)).toNat < (nx c a).length by unfold rd at q0 q1; omega)]
        exact List.getElem_mem _
      obtain ⟨y0, y1⟩ := h4 _ hy
      exact ih (i + 1) _ k (by omega) y0 y1 (by omega)
end

theorem pure : Pure := by
  intro c fs ts f w hc hf ht ha hw
  have hc' : ∀ x ∈ c, 0 ≤ x ∧ x < 4294967296 := fun x hx => by have := wf_u32 (hc.2 x hx); omega
  have hw' : ∀ x ∈ w, 0 ≤ x ∧ x ≤ 255 := fun x hx => wf_u8 (hw.2 x hx)
  have hwl : w.length ≤ 140737488351232 := by have := hw.1.2; omega
  refine ⟨50000 + 2 * w.length, ?_⟩
  generalize hK : 50000 + 2 * w.length = K
  unfold rotalaw08_ProperStays.f
  rw [check_f (gW c fs ts) c fs ts hc' (fun _ h => gW_in c fs ts h) K (by omega)]
  simp only [Option.bind_some]
  obtain ⟨K, rfl⟩ : ∃ m, K = m + 1 := ⟨K - 1, by omega⟩
  have hno : ∀ e, proper_function.f K c fs ts f = some e → e ≠ 0 → rotalaw08_ProperStays.j0 (K + 1) f w true c fs ts = some true := by
    intro e he hne
    simp only [rotalaw08_ProperStays.j0]
    rw [if_pos trivial]
    unfold proper_Reach.f
    rw [he]
    simp [hne]
  have hfn := function_ok c fs ts hc' f K (by omega)
  by_cases h : (checkAll (gW c fs ts) c fs ts).2 = 0
  · obtain ⟨e, F⟩ := fine_of h
    rw [ite_chk h] at hfn
    rw [if_pos h]
    by_cases h1 : f < 0
    · rw [if_pos (Or.inl h1)] at hfn
      rw [if_pos h1]
      exact hno 1 hfn (by decide)
    · rw [if_neg h1]
      by_cases h2 : f ≥ fs.length
      · rw [if_pos (Or.inr h2)] at hfn
        rw [decide_eq_true h2]
        exact hno 1 hfn (by decide)
      · rw [decide_eq_false h2]
        simp only [rotalaw08_ProperStays.j0]
        rw [if_neg (by simp), if_pos (by omega), if_pos (by omega)]
        have hb := chain_ge _ fs 0 F.chain _ (List.mem_of_getElem? (fn_at (show 0 ≤ f by omega) (show f < fs.length by omega)))
        have := stays_l0 hc' F (show 0 ≤ f by omega) (show f < fs.length by omega) rfl w hw' (by omega) w.length 0 (rd_T34 fs f).f0 K (by omega) (Int.le_refl _) hb.2.1 (by omega)
        exact this
  · rw [if_pos h] at hfn
    rw [if_neg h]
    exact hno _ hfn h
end Go.Proofs.Ytdlikjfffdpmiaa.SProperStays

/- ProperTurned, of plain numbers and lists: with one word in another's place what is wrong is what the document tells, and of that word or of a kind that a word can be wrong in; with a function's end moved the program may not be. Conditions: none. -/
import Derived.Test.YtdlikjfffdpmiaaProperTurnedS
import Derived.Test.YtdlikjfffdpmiaaProperK3
import Derived.Test.YtdlikjfffdpmiaaProperK1
set_option linter.unusedVariables false
namespace Go.Proofs.Ytdlikjfffdpmiaa.SProperTurned
open Go.RowKit Go.Proofs.Ytdlikjfffdpmiaa.QProper Go.Proofs.YtdlikjfffdpmiaaW.PrintWords Go.Proofs.YtdlikjfffdpmiaaW.PrintLast Go.Proofs.YtdlikjfffdpmiaaW.PrintMore Go.Proofs.Ytdlikjfffdpmiaa.Kin Go.Proofs.Ytdlikjfffdpmiaa.CProper

theorem awake {k : Nat} (hk : 40 ≤ k) : rotalaw08_awake.f k = some true :=
  at_rounds (g := rotalaw08_awake.f) rotalaw08_awake.mono hk (by decide +kernel)

theorem W_codes (nf nt x b e i : Int) (n a : Int) : okC (W nf nt x b e i) n a = true := by
  unfold W W2
  repeat' split
  all_goals simp [okC]
theorem fw_codes (nf nt : Int) (g : Int → Int) (hg : ∀ i n a, okC (g i) n a = true) (a1 : Int) : ∀ (m : Nat) (a : Int), okC (fw g m a).2 (fw g m a).1 a1 = true := by
  intro m
  induction m with
  | zero => intro a; simp [fw, okC]
  | succ m ih =>
    intro a
    unfold fw
    by_cases h : g a = 0
    · rw [if_pos h]; exact ih _
    · rw [if_neg h]; exact hg _ _ _
theorem all_codes (c : List Int) (fs : List S34) (ts : List S58) (h1 : c.length ≤ 4096) (h2 : fs.length ≤ 256) (h3 : ts.length ≤ 256) (a1 : Int) : okC (checkAll (gW c fs ts) c fs ts).2 (checkAll (gW c fs ts) c fs ts).1 a1 = true := by
  unfold checkAll
  rw [if_neg (by omega)]
  by_cases hp : (fparts c.length fs.length fs 0 0).2 = false
  · rw [if_pos hp]; simp [okC]
  · rw [if_neg hp]
    cases ts.findIdx? badTable with
    | some i => simp [okC]
    | none => exact fw_codes fs.length ts.length _ (fun i n a => W_codes _ _ _ _ _ _ n a) a1 _ _

theorem cut_end (n tot : Int) : ∀ (r : List S34) (a j : Int) (l : S34), r.getLast? = some l → Chain n r a →
    fparts n tot (r.set (r.length - 1) ⟨l.f0, l.f1 - 1⟩) a j = (j + ((r.length - 1 : Nat) : Int), false) ∨ fparts n tot (r.set (r.length - 1) ⟨l.f0, l.f1 - 1⟩) a j = (tot, false) := by
  intro r
  induction r with
  | nil => intro a j l h; cases h
  | cons f r ih =>
    intro a j l hl hc
    obtain ⟨c1, c2, c3, c4⟩ := hc
    cases r with
    | nil =>
      have e : f = l := by simpa using hl
      subst e
      have c5 : f.f1 = n := c4
      show fparts n tot [⟨f.f0, f.f1 - 1⟩] a j = _ ∨ fparts n tot [⟨f.f0, f.f1 - 1⟩] a j = _
      unfold fparts
      by_cases h : f.f0 = a ∧ a < f.f1 - 1 ∧ f.f1 - 1 ≤ n
      · right
        rw [if_pos h]
        unfold fparts
        rw [decide_eq_false (show ¬ f.f1 - 1 = n by omega), Bool.and_false]
      · left
        rw [if_neg h]
        simp
    | cons g r =>
      rw [List.getLast?_cons_cons] at hl
      have h := ih f.f1 (j + 1) l hl c4
      have e : (f :: g :: r).set ((f :: g :: r).length - 1) (⟨l.f0, l.f1 - 1⟩ : S34) = f :: (g :: r).set ((g :: r).length - 1) ⟨l.f0, l.f1 - 1⟩ := rfl
      rw [e]
      unfold fparts
      rw [if_pos ⟨c1, c2, c3⟩]
      rcases h with h | h
      · left
        rw [h]
        simp only [List.length_cons, Prod.mk.injEq, and_true]
        omega
      · right; exact h

theorem pure : Pure := by
  intro c fs ts a1 a2 hc hf ht ha hb
  have hc' : ∀ x ∈ c, 0 ≤ x ∧ x < 4294967296 := fun x hx => by have := wf_u32 (hc.2 x hx); omega
  have hb' := wf_u32 hb
  obtain ⟨k, hk⟩ : ∃ k : Nat, k = 29999 := ⟨_, rfl⟩
  refine ⟨k + 1, ?_⟩
  have hj : rotalaw08_ProperTurned.j0 (k + 1) a1 a2 true c fs ts = some true := by
    rw [rotalaw08_ProperTurned.j0, if_pos rfl, awake (by omega)]
    rfl
  unfold rotalaw08_ProperTurned.f
  rw [checks c fs ts hc' _ (by omega), Option.bind_some]
  by_cases h : (checkAll (gW c fs ts) c fs ts).2 = 0
  · rw [if_pos h]
    by_cases h1 : a1 < 0
    · rw [if_pos h1]; exact hj
    · rw [if_neg h1]
      by_cases h2 : a1 ≥ (c.length : Int)
      · rw [decide_eq_true h2]; exact hj
      · rw [decide_eq_false h2]
        obtain ⟨_, F⟩ := fine_of h
        have hnc := F.nc
        have hnf := F.nf
        have hpos := F.pos
        have hq : ∀ x ∈ c.set a1.toNat a2, 0 ≤ x ∧ x < 4294967296 := fun x hx => by
          rcases List.mem_or_eq_of_mem_set hx with h | h
          · exact hc' x h
          · omega
        have hcode := all_codes (c.set a1.toNat a2) fs ts (by rw [List.length_set]; exact hnc) hnf F.nt a1
        have hlast : fs.getLast? = some (rd_T34 fs ((fs.length : Int) - 1)) := by
          rw [List.getLast?_eq_getElem?]
          unfold rd_T34
          rw [show ((fs.length : Int) - 1).toNat = fs.length - 1 by omega, List.getD_eq_getElem?_getD, List.getElem?_eq_getElem (by omega)]
          rfl
        have hl := chain_ge _ fs 0 F.chain _ (List.mem_of_getLast? hlast)
        have hw1 : wrap64 ((fs.length : Int) - 1) = (fs.length : Int) - 1 := IntWalk.wrap64_in _ (by omega)
        have hw2 : wrap64 ((rd_T34 fs ((fs.length : Int) - 1)).f1 - 1) = (rd_T34 fs ((fs.length : Int) - 1)).f1 - 1 := IntWalk.wrap64_in _ (by omega)
        have hcut := cut_end c.length fs.length fs 0 0 _ hlast F.chain
        rw [rotalaw08_ProperTurned.j0, if_neg (by simp), if_pos (by simp; omega), Option.bind_some, List.nil_append, if_pos (by omega), if_pos (by omega), Option.bind_some, checks _ fs ts hq k (by omega), Option.bind_some, refCheck_f _ fs ts hq k (by omega), Option.bind_some, if_pos rfl, if_pos rfl, if_pos hcode, if_pos (by simp; omega), Option.bind_some, List.nil_append, hw1, hw2, if_pos (by omega), if_pos (by omega), show ((fs.length : Int) - 1).toNat = fs.length - 1 by omega, checks c _ ts hc' k (by omega), Option.bind_some]
        have hn1 : ¬ ((c.length : Int) > 4096 ∨ ((fs.set (fs.length - 1) (⟨(rd_T34 fs ((fs.length : Int) - 1)).f0, (rd_T34 fs ((fs.length : Int) - 1)).f1 - 1⟩ : S34)).length : Int) > 256 ∨ (ts.length : Int) > 256) := by
          have := F.nt
          rw [List.length_set]
          omega
        unfold checkAll
        rw [if_neg hn1, List.length_set]
        rcases hcut with e | e
        · rw [e, if_pos rfl, if_pos rfl]
          dsimp only
          rw [if_neg (by omega)]
          congr 1
          rw [beq_iff_eq]
          omega
        · rw [e, if_pos rfl, if_pos rfl, if_pos rfl]
  · rw [if_neg h]; exact hj
end Go.Proofs.Ytdlikjfffdpmiaa.SProperTurned

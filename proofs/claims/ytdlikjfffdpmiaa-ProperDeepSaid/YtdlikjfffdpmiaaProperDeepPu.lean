/- ProperDeep, of plain numbers and lists: a chain of calls that any numbers choose is no deeper than Depth tells, which is below the number of functions that are called. Conditions: none. -/
import Derived.Test.YtdlikjfffdpmiaaProperDeepS
import Derived.Test.YtdlikjfffdpmiaaProperDE
import Derived.Test.YtdlikjfffdpmiaaProperK3
set_option linter.unusedVariables false
namespace Go.Proofs.Ytdlikjfffdpmiaa.SProperDeep
open Go.RowKit Go.Proofs.Ytdlikjfffdpmiaa.QProper Go.Proofs.YtdlikjfffdpmiaaW.PrintWords Go.Proofs.YtdlikjfffdpmiaaW.PrintLast Go.Proofs.YtdlikjfffdpmiaaW.PrintMore Go.Proofs.Ytdlikjfffdpmiaa.Kin Go.Proofs.Ytdlikjfffdpmiaa.CProper Go.Proofs.Ytdlikjfffdpmiaa.GProper

theorem awake {k : Nat} (hk : 40 ≤ k) : rotalaw08_awake.f k = some true :=
  at_rounds (g := rotalaw08_awake.f) rotalaw08_awake.mono hk (by decide +kernel)

theorem has_l0 (l : List Int) (x : Int) (hl : (l.length : Int) < 9223372036854775807) : ∀ (d j k : Nat), l.length - j = d → d < k → x ∈ l.drop j → rotalaw08_has.l0 k l x (j : Int) = some true := by
  intro d
  induction d with
  | zero => intro j k hd hk hx; rw [List.drop_eq_nil_of_le (by omega)] at hx; cases hx
  | succ d ih =>
    intro j k hd hk hx
    obtain ⟨k, rfl⟩ : ∃ m, k = m + 1 := ⟨k - 1, by omega⟩
    have hj : j < l.length := by omega
    simp only [rotalaw08_has.l0]
    rw [if_pos (by omega), if_pos (by omega), rd_in hj, wrap1 (by omega)]
    rw [List.drop_eq_getElem_cons hj] at hx
    have e : l.getD j 0 = l[j] := by rw [List.getD_eq_getElem?_getD, List.getElem?_eq_getElem hj]; rfl
    rw [e]
    by_cases h : l[j] = x
    · rw [if_pos h]
    · rw [if_neg h]
      rcases List.mem_cons.1 hx with h1 | h1
      · exact absurd h1.symm h
      · exact ih (j + 1) k (by omega) (by omega) h1
theorem has_ok (l : List Int) (x : Int) (hl : (l.length : Int) < 9223372036854775807) (hx : x ∈ l) (k : Nat) (hk : l.length < k) : rotalaw08_has.f k l x = some true := by
  have := has_l0 l x hl l.length 0 k (by omega) hk (by simpa using hx)
  exact this
theorem rd_mem (l : List Int) (i : Int) (h0 : 0 ≤ i) (h1 : i < l.length) : rd l i ∈ l := by
  obtain ⟨j, rfl⟩ : ∃ j : Nat, i = (j : Int) := ⟨i.toNat, by omega⟩
  have hj : j < l.length := by omega
  rw [rd_in hj, List.getD_eq_getElem?_getD, List.getElem?_eq_getElem hj]
  exact List.getElem_mem _

theorem few {d k : Nat} (h : 100002 + d * 10000 ≤ k + 1) : 100000 + d * 10000 ≤ k := by omega
section
variable {c : List Int} {fs : List S34} {ts : List S58} (hc : ∀ x ∈ c, 0 ≤ x ∧ x < 4294967296)
include hc
theorem deep_l1 (l2 : List Int) (D : Int) (L : List Int) (i : Int) (w : List Int) (hw : w.length ≤ 4096) (hin : ∀ x ∈ w, 0 ≤ x ∧ x < c.length) (R : Bool) (K : Nat) (hK : 20 ≤ K)
    (hend : ∀ k, K ≤ k → rotalaw08_ProperDeep.l1 k l2 D L i w (nam c false w) (w.length : Int) c fs ts = some R) :
    ∀ (d j : Nat) (acc : List Int) (k : Nat), w.length - j = d → j ≤ w.length → acc.length ≤ j → acc ++ nam c false (w.drop j) = nam c false w → K + d ≤ k → rotalaw08_ProperDeep.l1 k l2 D L i w acc (j : Int) c fs ts = some R := by
  intro d
  induction d with
  | zero =>
    intro j acc k hd hj ha hn hk
    have ej : j = w.length := by omega
    rw [ej, List.drop_length] at hn
    have e : acc = nam c false w := by simpa [nam] using hn
    rw [e, ej]
    exact hend k (by omega)
  | succ d ih =>
    intro j acc k hd hj ha hn hk
    obtain ⟨k, rfl⟩ : ∃ m, k = m + 1 := ⟨k - 1, by omega⟩
    have hjl : j < w.length := by omega
    have hx := hin _ (rd_mem w (j : Int) (by omega) (by omega))
    have hwd := rd_word hc hx.1 hx.2
    have hdr : w.drop j = rd w (j : Int) :: w.drop (j + 1) := by
      rw [List.drop_eq_getElem_cons hjl]
      congr 1
      rw [rd_in hjl, List.getD_eq_getElem?_getD, List.getElem?_eq_getElem hjl]; rfl
    rw [hdr] at hn
    rw [rotalaw08_ProperDeep.l1, if_pos (by omega), if_pos (by omega), if_pos hx.1, if_pos hx.2, wrap1 (by omega)]
    obtain ⟨q, rfl⟩ : ∃ q, k = q + 1 := ⟨k - 1, by omega⟩
    rw [refDecode_f q _ hwd.1 hwd.2, Option.bind_some]
    have hcons : ∀ (a : Int) (r : List Int), nam c false (a :: r) = if isCall false (dec (rd c a)).1 = true then (dec (rd c a)).2.2.2.2.1 :: nam c false r else nam c false r := fun _ _ => rfl
    rw [hcons] at hn
    by_cases h20 : (dec (rd c (rd w (j : Int)))).1 = 20
    · rw [if_pos (by rw [h20]; simp [isCall])] at hn
      rw [if_pos h20, if_pos (by omega)]
      exact ih (j + 1) _ (q + 1) (by omega) (by omega) (by rw [List.length_append]; simp only [List.length_cons, List.length_nil]; omega) (by rw [List.append_assoc]; exact hn) (by omega)
    · rw [if_neg (by simp [isCall, h20])] at hn
      rw [if_neg h20]
      exact ih (j + 1) acc (q + 1) (by omega) (by omega) (by omega) hn (by omega)

variable (F : Fine c fs ts) {f : Int} {L : List Int} {D : Int} {l2 : List Int} (h0 : 0 ≤ f) (h1 : f < fs.length) (hL : L.length ≤ 256) (hLin : ∀ x ∈ L, 0 ≤ x ∧ x < fs.length) (hLcl : ∀ x ∈ L, ∀ y ∈ nmL c fs ts false x, y ∈ L) (hD : DepthIs c fs ts f D)
  (hl2 : ∀ y ∈ l2, 0 ≤ y ∧ y < 256) (hl2n : l2.length ≤ 140737488351232)
include F hL hLin hLcl hD hl2 hl2n
theorem deep_l0 : ∀ (d i : Nat) (a : Int) (k : Nat), l2.length - i = d → i ≤ l2.length → a ∈ L → Wk (nmL c fs ts false) f i a → 100000 + d * 10000 ≤ k → rotalaw08_ProperDeep.l0 k l2 D L a (i : Int) c fs ts = some true := by
  intro d
  induction d with
  | zero =>
    intro i a k hd hi ha hw hk
    obtain ⟨k, rfl⟩ : ∃ m, k = m + 1 := ⟨k - 1, by omega⟩
    rw [rotalaw08_ProperDeep.l0, if_neg (by omega)]
  | succ d ih =>
    intro i a k hd hi ha hw hk
    obtain ⟨k, rfl⟩ : ∃ m, k = m + 1 := ⟨k - 1, by omega⟩
    have hain := hLin a ha
    obtain ⟨hr, hinc, _, hran, hlen⟩ := RL_ok hc F a hain.1 hain.2
    have hreach : proper_Reach.f k c fs ts a = some (RL c fs ts a, 0) := by
      unfold proper_Reach.f
      rw [function_ok c fs ts hc a k (by omega), ite_chk (by rw [F.chk]), if_neg (by omega), Option.bind_some, if_pos rfl, hr k (by omega)]
      rfl
    rw [rotalaw08_ProperDeep.l0, if_pos (by omega), hreach, Option.bind_some]
    have hmem : ∀ y ∈ nam c false (RL c fs ts a), y ∈ nmL c fs ts false a := fun y hy => (addAll_mem _ _ _).2 (.inr hy)
    refine deep_l1 hc l2 D L (i : Int) (RL c fs ts a) hlen hran true (100010 + d * 10000) (by omega) ?_ (RL c fs ts a).length 0 [] k (by omega) (by omega) (by simp) (by simp) (by omega)
    intro k hk
    obtain ⟨k, rfl⟩ : ∃ m, k = m + 1 := ⟨k - 1, by omega⟩
    rw [rotalaw08_ProperDeep.l1, if_neg (by omega)]
    have hAl : (nam c false (RL c fs ts a)).length ≤ 4096 := Nat.le_trans (nam_len c false _) hlen
    generalize nam c false (RL c fs ts a) = A at hmem hAl ⊢
    clear hlen
    by_cases he : (A.length : Int) = 0
    · rw [if_pos he]
    · rw [if_neg he]
      have hhas : Has (nmL c fs ts false) (i + 1) f := (Wk_Has (nmL c fs ts false) f i 1).2 ⟨a, hw, rd A 0, hmem _ (rd_mem A 0 (Int.le_refl _) (by omega)), trivial⟩
      have hj3 : ∀ k, 100002 + d * 10000 ≤ k → rotalaw08_ProperDeep.j3 k l2 D L (i : Int) A false c fs ts = some true := by
        intro k hk
        obtain ⟨k, rfl⟩ : ∃ m, k = m + 1 := ⟨k - 1, by omega⟩
        have e3 : 100000 + d * 10000 ≤ k := few hk
        have hv := hl2 _ (rd_mem l2 (i : Int) (by omega) (by omega))
        have hwr : wrap64 (rd l2 (i : Int)) = rd l2 (i : Int) := IntWalk.wrap64_in _ (by omega)
        have hq0 : 0 ≤ Int.tmod (rd l2 (i : Int)) (A.length : Int) := Int.tmod_nonneg _ hv.1
        have hq1 : Int.tmod (rd l2 (i : Int)) (A.length : Int) < (A.length : Int) := Int.tmod_lt_of_pos _ (by omega)
        have hm := hmem _ (rd_mem A _ hq0 hq1)
        rw [rotalaw08_ProperDeep.j3, if_neg (by simp), if_pos (by omega), if_pos (by omega), if_neg he, hwr, if_pos hq0, if_pos hq1, has_ok L _ (by omega) (hLcl a ha _ hm) _ (by omega), Option.bind_some, if_pos rfl, wrap1 (by omega)]
        have hwk : Wk (nmL c fs ts false) f (i + 1) (rd A (Int.tmod (rd l2 (i : Int)) (A.length : Int))) := ⟨a, hw, hm⟩
        have e1 : l2.length - (i + 1) = d := by omega
        have e2 : i + 1 ≤ l2.length := by omega
        exact ih (i + 1) _ k e1 e2 (hLcl a ha _ hm) hwk e3
      by_cases hDD : D ≥ 0
      · rw [if_pos hDD]
        have hlt : ¬ ((i : Int) ≥ D) := fun h => by
          rcases hD with ⟨e, _⟩ | ⟨_, hlong, _⟩
          · omega
          · exact hlong.2 (Has_le' hhas (by omega))
        rw [decide_eq_false hlt]
        exact hj3 k (by omega)
      · rw [if_neg hDD]
        exact hj3 k (by omega)
end

theorem pure : Pure := by
  intro c fs ts f l2 hc hf ht ha hw
  have hc' : ∀ x ∈ c, 0 ≤ x ∧ x < 4294967296 := fun x hx => by have := wf_u32 (hc.2 x hx); omega
  have hl2 : ∀ y ∈ l2, 0 ≤ y ∧ y < 256 := fun x hx => by have := wf_u8 (hw.2 x hx); omega
  have hl2n : l2.length ≤ 140737488351232 := by have := hw.1.2; omega
  refine ⟨300100000 + l2.length * 10000, ?_⟩
  obtain ⟨K, hK⟩ : ∃ K, K = 300100000 + l2.length * 10000 := ⟨_, rfl⟩
  rw [← hK]
  have hfn := function_ok c fs ts hc' f K (by omega)
  have hno : ∀ e, proper_function.f K c fs ts f = some e → e ≠ 0 → rotalaw08_ProperDeep.f K c fs ts f l2 = some true := by
    intro e he hne
    unfold rotalaw08_ProperDeep.f proper_Depth.f
    rw [he, Option.bind_some, if_neg hne, Option.bind_some, if_neg hne, if_pos rfl, awake (by omega)]
    rfl
  by_cases h : (checkAll (gW c fs ts) c fs ts).2 = 0
  · obtain ⟨_, F⟩ := fine_of h
    rw [ite_chk h] at hfn
    by_cases h1 : f < 0 ∨ (fs.length : Int) ≤ f
    · rw [if_pos h1] at hfn
      exact hno 1 hfn (by decide)
    · rw [if_neg h1] at hfn
      have f0 : 0 ≤ f := by omega
      have f1 : f < (fs.length : Int) := by omega
      have hnf := F.nf
      obtain ⟨D, hDI, _, hd⟩ := depth_is hc' F f f0 f1
      obtain ⟨kn, op, hd⟩ := hd K (by omega)
      obtain ⟨L, hcalls, hinc, hmem, hin⟩ := calls_ok hc' F false f f0 f1
      have hL : L.length ≤ 256 := nodup_len 256 0 L (hinc.imp (by intro a b h; omega)) (fun x hx => by have := hin x hx; omega)
      have hde : proper_Depth.f K c fs ts f = some (D, 0) := by
        unfold proper_Depth.f
        rw [hfn, Option.bind_some, if_pos rfl, hd]
        rfl
      have hca : proper_Calls.f K c fs ts f false = some (L, 0) := by
        unfold proper_Calls.f
        rw [hfn, Option.bind_some, if_pos rfl]
        exact hcalls _ (by omega)
      have hLcl : ∀ x ∈ L, ∀ y ∈ nmL c fs ts false x, y ∈ L := fun x hx y hy => (hmem y).2 (((hmem x).1 hx).step hy)
      have hfL : f ∈ L := (hmem f).2 .base
      have hDL : D < (L.length : Int) := by
        rcases hDI with ⟨h, _⟩ | ⟨_, _, h⟩
        · omega
        · exact h L hL hfL hin hLcl
      have hDm : ¬ D < -1 := by
        rcases hDI with ⟨h, _⟩ | ⟨h, _⟩ <;> omega
      unfold rotalaw08_ProperDeep.f
      rw [hde, Option.bind_some, if_pos rfl, hca, Option.bind_some, if_neg (show ¬ (D ≥ (L.length : Int)) by omega), decide_eq_false hDm]
      obtain ⟨k, hk⟩ : ∃ m, K = m + 1 := ⟨K - 1, by omega⟩
      rw [hk, rotalaw08_ProperDeep.j0, if_neg (by simp)]
      exact deep_l0 hc' F hL hin hLcl hDI hl2 hl2n l2.length 0 f k (by omega) (by omega) hfL rfl (by omega)
  · rw [if_pos h] at hfn
    exact hno _ hfn h
end Go.Proofs.Ytdlikjfffdpmiaa.SProperDeep

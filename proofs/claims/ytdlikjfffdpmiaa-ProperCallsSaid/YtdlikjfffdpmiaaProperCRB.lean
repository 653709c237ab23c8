/- What can be come to within a function, of the document, plain; both are one. Conditions: the program may be. -/
import Derived.Test.YtdlikjfffdpmiaaProperK3
import Derived.Test.YtdlikjfffdpmiaaProperK2
import Derived.Test.YtdlikjfffdpmiaaQProperx43
import Derived.Test.YtdlikjfffdpmiaaQProperx40
set_option linter.unusedVariables false
set_option linter.unusedSimpArgs false
namespace Go.Proofs.Ytdlikjfffdpmiaa.CProper
open Go.RowKit Go.Proofs.Ytdlikjfffdpmiaa.QProper Go.Proofs.Ytdlikjfffdpmiaa.GProper Go.Proofs.YtdlikjfffdpmiaaW.PrintWords Go.Proofs.YtdlikjfffdpmiaaW.PrintLast Go.Proofs.YtdlikjfffdpmiaaW.PrintMore

theorem rising_l0 (l : List Bool) (hl : l.length ≤ 5000) : ∀ (d j : Nat) (out : List Int) (k : Nat), l.length - j = d → out.length ≤ j → d < k → rotaref08_rising.l0 k l out (j : Int) = some (out ++ risingL (l.drop j) j) := by
  intro d
  induction d with
  | zero =>
    intro j out k hd ho hk
    obtain ⟨k, rfl⟩ : ∃ m, k = m + 1 := ⟨k - 1, by omega⟩
    simp only [rotaref08_rising.l0]
    rw [if_neg (by omega), List.drop_eq_nil_of_le (by omega)]
    simp [risingL]
  | succ d ih =>
    intro j out k hd ho hk
    obtain ⟨k, rfl⟩ : ∃ m, k = m + 1 := ⟨k - 1, by omega⟩
    have hj : j < l.length := by omega
    simp only [rotaref08_rising.l0]
    have hw : wrap64 ((j : Int) + 1) = ((j + 1 : Nat) : Int) := wrap1 (by omega)
    have hr : rdOf false l (j : Int) = l[j] := by unfold rdOf; rw [List.getD_eq_getElem?_getD, Int.toNat_natCast, List.getElem?_eq_getElem hj]; rfl
    rw [if_pos (by omega), if_pos (by omega), hr, List.drop_eq_getElem_cons hj, hw]
    unfold risingL
    by_cases h : l[j] = true
    · rw [if_pos h, if_pos h, if_pos (by omega), ih (j + 1) (out ++ [(j : Int)]) k (by omega) (by rw [List.length_append, List.length_singleton]; omega) (by omega)]
      simp
    · rw [if_neg h, if_neg h, ih (j + 1) out k (by omega) (by omega) (by omega)]
      simp
theorem rising_ok (l : List Bool) (hl : l.length ≤ 5000) (k : Nat) (hk : l.length < k) : rotaref08_rising.f k l = some (risingL l 0) := by
  unfold rotaref08_rising.f
  have := rising_l0 l hl l.length 0 [] k (by omega) (by simp) hk
  simpa using this

theorem refreach_l2 (c : List Int) (fs : List S34) (ts : List S58) (f a : Int) (ha : wrap64 (a + 1) = a + 1) (t : List Int) (ht : t.length ≤ 2) : ∀ (d j : Nat) (q : List Bool × Bool) (k : Nat), t.length - j = d → (∀ y ∈ t, 0 ≤ y ∧ y < q.1.length) →
    rotaref08_reach.l2 (k + d + 1) f q.1 q.2 a t (j : Int) c fs ts = rotaref08_reach.l1 k f (markL (t.drop j) q).1 (markL (t.drop j) q).2 (a + 1) c fs ts := by
  intro d
  induction d with
  | zero =>
    intro j q k hd hy
    rw [Nat.add_zero]
    simp only [rotaref08_reach.l2]
    rw [if_neg (by omega), List.drop_eq_nil_of_le (by omega), ha]
    rfl
  | succ d ih =>
    intro j q k hd hy
    have hj : j < t.length := by omega
    show rotaref08_reach.l2 (k + d + 1 + 1) f q.1 q.2 a t (j : Int) c fs ts = _
    rw [rotaref08_reach.l2]
    have hw : wrap64 ((j : Int) + 1) = ((j + 1 : Nat) : Int) := wrap1 (by omega)
    have hdr : t.drop j = rd t (j : Int) :: t.drop (j + 1) := by
      rw [List.drop_eq_getElem_cons hj, rd_in hj, List.getD_eq_getElem?_getD, List.getElem?_eq_getElem hj]; rfl
    have hm : rd t (j : Int) ∈ t := by
      rw [rd_in hj, List.getD_eq_getElem?_getD, List.getElem?_eq_getElem hj]; exact List.getElem_mem _
    obtain ⟨y0, y1⟩ := hy _ hm
    have ih' := ih (j + 1) (q.1.set (rd t (j : Int)).toNat true, q.2 || !at_ q.1 (rd t (j : Int))) k (by omega) (fun y h => by have := hy y h; simpa using this)
    rw [if_pos (by omega), hw, hdr]
    have hrd : rdOf false q.1 (rd t (j : Int)) = at_ q.1 (rd t (j : Int)) := rfl
    obtain ⟨cm, mv⟩ := q
    cases mv with
    | true =>
      rw [if_pos rfl, if_pos (by omega), if_pos y0, if_pos y1]
      exact ih'
    | false =>
      rw [if_neg (by simp), if_pos (by omega), if_pos y0, if_pos y1, hrd]
      exact ih'
theorem left_le (l : List Bool) : left l ≤ l.length := List.countP_le_length
section
variable {c : List Int} {fs : List S34} {ts : List S58} (hc : ∀ x ∈ c, 0 ≤ x ∧ x < 4294967296) (F : Fine c fs ts)
include hc F
theorem refreach_l1 {f : Int} (f0 : 0 ≤ f) (f1 : f < fs.length) {g : S34} (hg : rd_T34 fs f = g) (hb : 0 ≤ g.f0) (he : g.f1 ≤ c.length) (hnx : ∀ x, g.f0 ≤ x → x < g.f1 → ∀ y ∈ nx c x, g.f0 ≤ y ∧ y < g.f1) (R : List Bool) (K : Nat) :
    ∀ (m : Nat) (a : Int) (q : List Bool × Bool), g.f0 ≤ a → a + m = g.f1 → q.1.length = c.length → (∀ k, K ≤ k → rotaref08_reach.l0 k f (sweep (nx c) m a q).1 (sweep (nx c) m a q).2 c fs ts = some R) →
      ∀ k, K + 5 * m + 20010 ≤ k → rotaref08_reach.l1 k f q.1 q.2 a c fs ts = some R := by
  intro m
  induction m with
  | zero =>
    intro a q h0 h1 hq hn k hk
    obtain ⟨k, rfl⟩ : ∃ m, k = m + 1 := ⟨k - 1, by omega⟩
    simp only [rotaref08_reach.l1]
    rw [if_pos f0, if_pos f1, hg, if_neg (by omega)]
    exact hn k (by omega)
  | succ m ih =>
    intro a q h0 h1 hq hn k hk
    obtain ⟨k, rfl⟩ : ∃ m, k = m + 1 := ⟨k - 1, by omega⟩
    have hnc := F.nc
    have hw : wrap64 (a + 1) = a + 1 := IntWalk.wrap64_in _ (by omega)
    simp only [rotaref08_reach.l1]
    rw [if_pos f0, if_pos f1, hg, if_pos (by omega), if_pos (by omega), if_pos (by omega)]
    have hrd : rdOf false q.1 a = at_ q.1 a := rfl
    rw [hrd]
    unfold sweep at hn
    by_cases h : at_ q.1 a = true
    · rw [if_pos h] at hn ⊢
      have hx := hnx a h0 (by omega)
      rw [refnext_ok c fs ts hc a k (by omega) F.nc (by omega) (by omega)]
      simp only [Option.bind_some]
      have ht : (nexts (rd c a) a).length ≤ 2 := nexts_len _ _
      have hy : ∀ y ∈ nx c a, 0 ≤ y ∧ y < q.1.length := fun y hy => by have := hx y hy; omega
      obtain ⟨k, rfl⟩ : ∃ z, k = z + (nexts (rd c a) a).length + 1 := ⟨k - (nexts (rd c a) a).length - 1, by omega⟩
      have h2 := refreach_l2 c fs ts f a hw (nexts (rd c a) a) ht (nexts (rd c a) a).length 0 q k (by omega) hy
      rw [show ((0 : Nat) : Int) = 0 from rfl, List.drop_zero] at h2
      rw [h2]
      refine ih (a + 1) (markL (nx c a) q) (by omega) (by omega) ?_ hn k (by omega)
      rw [(mark_ok (nx c a) q hy).1.len, hq]
    · rw [if_neg h] at hn ⊢
      rw [hw]
      exact ih (a + 1) q (by omega) (by omega) hq hn k (by omega)
theorem refreach_l0 {f : Int} (f0 : 0 ≤ f) (f1 : f < fs.length) {g : S34} (hg : rd_T34 fs f = g) (hb : 0 ≤ g.f0) (hbe : g.f0 ≤ g.f1) (he : g.f1 ≤ c.length) (hnx : ∀ x, g.f0 ≤ x → x < g.f1 → ∀ y ∈ nx c x, g.f0 ≤ y ∧ y < g.f1) :
    ∀ (m : Nat) (cm r : List Bool), cm.length = c.length → sweeps (nx c) g.f0 (g.f1 - g.f0).toNat m cm = some r → ∀ k, m * 45000 + 2 ≤ k → rotaref08_reach.l0 k f cm true c fs ts = some r := by
  intro m
  induction m with
  | zero => intro cm r _ h; cases h
  | succ m ih =>
    intro cm r hcl h k hk
    have hnc := F.nc
    obtain ⟨k, rfl⟩ : ∃ m, k = m + 1 := ⟨k - 1, by omega⟩
    unfold sweeps at h
    simp only [rotaref08_reach.l0]
    rw [if_pos trivial, if_pos f0, if_pos f1, hg]
    have hN : ((g.f1 - g.f0).toNat : Int) = g.f1 - g.f0 := by omega
    have hnx' : ∀ x, g.f0 ≤ x → x < g.f0 + (g.f1 - g.f0).toNat → ∀ y ∈ nx c x, g.f0 ≤ y ∧ y < g.f0 + (g.f1 - g.f0).toNat := fun x a b y hy => by
      have := hnx x a (by omega) y hy; omega
    have hM := (sweep_ok (nx c) g.f0 _ hb hnx' (g.f1 - g.f0).toNat g.f0 (cm, false) (Int.le_refl _) (Int.le_refl _) (by show _ ≤ (cm.length : Int); omega)).1
    refine refreach_l1 hc F f0 f1 hg hb he hnx r (m * 45000 + 2) (g.f1 - g.f0).toNat g.f0 (cm, false) (Int.le_refl _) (by omega) hcl (fun k' hk' => ?_) k (by omega)
    by_cases hs : (sweep (nx c) (g.f1 - g.f0).toNat g.f0 (cm, false)).2 = true
    · rw [if_pos hs] at h
      rw [hs]
      exact ih _ r (hM.len.trans hcl) h k' hk'
    · rw [if_neg hs] at h
      have hs' : (sweep (nx c) (g.f1 - g.f0).toNat g.f0 (cm, false)).2 = false := by simpa using hs
      rw [hs']
      obtain ⟨k', rfl⟩ : ∃ m, k' = m + 1 := ⟨k' - 1, by omega⟩
      simp only [rotaref08_reach.l0]
      rw [if_neg (by decide)]
      exact h
/-- The document's row of truths, and its list. -/
theorem refreach_ok (f : Int) (h0 : 0 ≤ f) (h1 : f < fs.length) : ∃ r : List Bool, (∀ k, 200000000 ≤ k → rotaref08_reach.f k c fs ts f = some r) ∧ r.length = c.length ∧ ∀ x : Int, 0 ≤ x → (at_ r x = true ↔ Rch (nx c) (rd_T34 fs f).f0 x) := by
  have hf := fn_at h0 h1
  have hin := nx_in F hf
  have hch := chain_ge _ fs 0 F.chain _ (List.mem_of_getElem? hf)
  have hnc := F.nc
  generalize hg : rd_T34 fs f = g at *
  have hN : ((g.f1 - g.f0).toNat : Int) = g.f1 - g.f0 := by omega
  have hnx : ∀ x, g.f0 ≤ x → x < g.f0 + (g.f1 - g.f0).toNat → ∀ y ∈ nx c x, g.f0 ≤ y ∧ y < g.f0 + (g.f1 - g.f0).toNat := fun x a b y hy => by
    have := hin x a (by omega) y hy; omega
  have hrep : (List.replicate c.length false).length = c.length := by simp
  have hget : ∀ x : Int, at_ (List.replicate c.length false) x = false := fun x => by
    unfold at_
    rw [List.getD_eq_getElem?_getD]
    by_cases h : x.toNat < c.length
    · rw [List.getElem?_replicate, if_pos h]; rfl
    · rw [List.getElem?_eq_none (by simp; omega)]; rfl
  have hat : ∀ x : Int, 0 ≤ x → at_ ((List.replicate c.length false).set g.f0.toNat true) x = decide (x = g.f0) := fun x hx => by
    rw [at_set _ _ _ (by omega) (by rw [hrep]; omega) hx, hget]; simp
  have hlen : ((List.replicate c.length false).set g.f0.toNat true).length = c.length := by simp
  obtain ⟨r, hr, hrl, hmem⟩ := sweeps_ok (nx c) g.f0 g.f0 (g.f1 - g.f0).toNat (by omega) (by omega) hnx 4097 ((List.replicate c.length false).set g.f0.toNat true)
    (by have := left_le ((List.replicate c.length false).set g.f0.toNat true); rw [hlen] at this; omega) (by rw [hlen]; omega) (by rw [hat _ (by omega)]; simp) (fun x hx h => by rw [hat x hx] at h; rw [of_decide_eq_true h]; exact .base)
  refine ⟨r, fun k hk => ?_, hrl.trans hlen, hmem⟩
  unfold rotaref08_reach.f
  rw [if_pos (by omega), if_pos (by omega)]
  simp only [Option.bind_some, Int.toNat_natCast]
  rw [if_pos h0, if_pos h1, hg, if_pos (by omega), if_pos (by rw [hrep]; omega)]
  exact refreach_l0 hc F h0 h1 hg (by omega) (by omega) (by omega) hin 4097 _ r hlen hr k (by omega)
/-- Both lists are one. -/
theorem reach_one (f : Int) (h0 : 0 ≤ f) (h1 : f < fs.length) : ∃ L : List Int, (∀ k, 40000 ≤ k → proper_reach.f k c fs ts f = some L) ∧ L.length ≤ 4096 ∧ ∀ k, 200000000 ≤ k → ∃ r, rotaref08_reach.f k c fs ts f = some r ∧ rotaref08_rising.f k r = some L := by
  obtain ⟨L, hL, hinc, hmem, hran⟩ := reach_ok hc F f h0 h1
  obtain ⟨r, hr, hrl, hrm⟩ := refreach_ok hc F f h0 h1
  have hf := fn_at h0 h1
  have hin := nx_in F hf
  have hch := chain_ge _ fs 0 F.chain _ (List.mem_of_getElem? hf)
  have hnc := F.nc
  have e : risingL r 0 = L := by
    refine inc_unique _ _ (risingL_inc _ _) hinc (fun x => ?_)
    rw [risingL_mem]
    constructor
    · rintro ⟨a, b, d⟩
      exact (hmem x).2 ((hrm x a).1 d)
    · intro hx
      have h2 := hran x hx
      have h3 := (hmem x).1 hx
      exact ⟨by omega, by rw [hrl]; omega, (hrm x (by omega)).2 h3⟩
  refine ⟨L, hL, ?_, fun k hk => ⟨r, hr k hk, by rw [rising_ok r (by omega) k (by omega), e]⟩⟩
  have := nodup_len 4096 0 L (hinc.imp (by intro a b h; omega)) (fun x hx => by have := hran x hx; omega)
  exact this
end

def reachAll (c : List Int) (fs : List S34) (ts : List S58) (f : Int) (L : List Int) : List Int × Int :=
  if (checkAll (gW c fs ts) c fs ts).2 ≠ 0 then ([], (checkAll (gW c fs ts) c fs ts).2) else if f < 0 ∨ (fs.length : Int) ≤ f then ([], 1) else (L, 0)
/-- What is told ahead of all else about a function. -/
def errF (c : List Int) (fs : List S34) (ts : List S58) (f : Int) : Int := if (checkAll (gW c fs ts) c fs ts).2 ≠ 0 then (checkAll (gW c fs ts) c fs ts).2 else if f < 0 ∨ (fs.length : Int) ≤ f then 1 else 0
theorem Reach_both (c : List Int) (fs : List S34) (ts : List S58) (hc : ∀ x ∈ c, 0 ≤ x ∧ x < 4294967296) (f : Int) :
    ∃ L : List Int × Int, L.1.length ≤ 4096 ∧ L.2 = errF c fs ts f ∧ ∀ k, 200000000 ≤ k → proper_Reach.f k c fs ts f = some L ∧ rotaref08_Reach.f k c fs ts f = some L := by
  by_cases h : (checkAll (gW c fs ts) c fs ts).2 = 0
  · obtain ⟨e, F⟩ := fine_of h
    by_cases h1 : f < 0 ∨ (fs.length : Int) ≤ f
    · refine ⟨([], 1), by simp, by unfold errF; rw [ite_chk h, if_pos h1], fun k hk => ?_⟩
      unfold proper_Reach.f rotaref08_Reach.f
      rw [function_ok c fs ts hc f k (by omega), looked_ok c fs ts hc f k (by omega)]
      simp [h, h1]
    · obtain ⟨L, hL, hlen, hr⟩ := reach_one hc F f (by omega) (by omega)
      refine ⟨(L, 0), hlen, by unfold errF; rw [ite_chk h, if_neg h1], fun k hk => ?_⟩
      obtain ⟨r, hr1, hr2⟩ := hr k hk
      unfold proper_Reach.f rotaref08_Reach.f
      rw [function_ok c fs ts hc f k (by omega), looked_ok c fs ts hc f k (by omega), hL k (by omega), hr1]
      simp [h, h1, hr2]
  · refine ⟨([], (checkAll (gW c fs ts) c fs ts).2), by simp, by unfold errF; rw [if_pos h], fun k hk => ?_⟩
    unfold proper_Reach.f rotaref08_Reach.f
    rw [function_ok c fs ts hc f k (by omega), looked_ok c fs ts hc f k (by omega)]
    simp [h]
end Go.Proofs.Ytdlikjfffdpmiaa.CProper

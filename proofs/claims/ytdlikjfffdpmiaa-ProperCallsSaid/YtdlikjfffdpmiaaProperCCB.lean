/- What can run on behalf of a function, of the document, plain; both are one. Conditions: the program may be. -/
import Derived.Test.YtdlikjfffdpmiaaProperCC
import Derived.Test.YtdlikjfffdpmiaaProperCRB
import Derived.Test.YtdlikjfffdpmiaaQProperx52
import Derived.Test.YtdlikjfffdpmiaaQProperx50
set_option linter.unusedVariables false
set_option linter.unusedSimpArgs false
namespace Go.Proofs.Ytdlikjfffdpmiaa.CProper
open Go.RowKit Go.Proofs.Ytdlikjfffdpmiaa.QProper Go.Proofs.Ytdlikjfffdpmiaa.GProper Go.Proofs.YtdlikjfffdpmiaaW.PrintWords Go.Proofs.YtdlikjfffdpmiaaW.PrintLast Go.Proofs.YtdlikjfffdpmiaaW.PrintMore

def setAll (r : List Bool) (t : List Int) : List Bool := t.foldl (fun r y => r.set y.toNat true) r
theorem setAll_len : ∀ (t : List Int) (r : List Bool), (setAll r t).length = r.length := by
  intro t
  induction t with
  | nil => intro r; rfl
  | cons y t ih => intro r; show (setAll (r.set y.toNat true) t).length = _; rw [ih]; simp
theorem setAll_mem : ∀ (t : List Int) (r : List Bool), (∀ y ∈ t, 0 ≤ y ∧ y < r.length) → ∀ x : Int, 0 ≤ x → (at_ (setAll r t) x = true ↔ at_ r x = true ∨ x ∈ t) := by
  intro t
  induction t with
  | nil => intro r _ x _; simp [setAll]
  | cons y t ih =>
    intro r h x hx
    obtain ⟨y0, y1⟩ := h y List.mem_cons_self
    show at_ (setAll (r.set y.toNat true) t) x = true ↔ _
    rw [ih _ (fun z hz => by have := h z (List.mem_cons_of_mem _ hz); simpa using this) x hx, at_set _ _ _ y0 y1 hx]
    simp only [Bool.or_eq_true, decide_eq_true_eq, List.mem_cons]
    constructor
    · rintro ((h1 | h1) | h1)
      · exact .inl h1
      · exact .inr (.inl h1)
      · exact .inr (.inr h1)
    · rintro (h1 | h1 | h1)
      · exact .inl (.inl h1)
      · exact .inl (.inr h1)
      · exact .inr h1

/-- The document's row of what a function names, as rising numbers. -/
def nmS (c : List Int) (fs : List S34) (ts : List S58) (sp : Bool) (f : Int) : List Bool := setAll (List.replicate fs.length false) (nam c sp (RL c fs ts f))
def nmR (c : List Int) (fs : List S34) (ts : List S58) (sp : Bool) (f : Int) : List Int := risingL (nmS c fs ts sp f) 0

theorem rep_at (n : Nat) (x : Int) : at_ (List.replicate n false) x = false := by
  unfold at_
  rw [List.getD_eq_getElem?_getD]
  by_cases h : x.toNat < n
  · rw [List.getElem?_replicate, if_pos h]; rfl
  · rw [List.getElem?_eq_none (by simp; omega)]; rfl

section
variable {c : List Int} {fs : List S34} {ts : List S58} (hc : ∀ x ∈ c, 0 ≤ x ∧ x < 4294967296) (F : Fine c fs ts)
include hc F
theorem come_ok (f : Int) (h0 : 0 ≤ f) (h1 : f < fs.length) : ∃ r : List Bool, (∀ k, 200000000 ≤ k → rotaref08_reach.f k c fs ts f = some r) ∧ r.length = c.length ∧ risingL r 0 = RL c fs ts f := by
  obtain ⟨_, hinc, hmem, hran, _⟩ := RL_ok hc F f h0 h1
  obtain ⟨r, hr, hrl, hrm⟩ := refreach_ok hc F f h0 h1
  refine ⟨r, hr, hrl, inc_unique _ _ (risingL_inc _ _) hinc (fun x => ?_)⟩
  rw [risingL_mem]
  constructor
  · rintro ⟨a, b, d⟩
    exact (hmem x).2 ((hrm x a).1 d)
  · intro hx
    have h2 := hran x hx
    have h3 := (hmem x).1 hx
    exact ⟨by omega, by rw [hrl]; omega, (hrm x (by omega)).2 h3⟩
theorem refnamed_l0 (sp : Bool) (come : List Bool) (hcl : come.length = c.length) (hin : ∀ a : Int, 0 ≤ a → a < c.length → at_ come a = true → isCall sp (dec (rd c a)).1 = true → 0 ≤ (dec (rd c a)).2.2.2.2.1 ∧ (dec (rd c a)).2.2.2.2.1 < fs.length) :
    ∀ (d j : Nat) (r : List Bool) (k : Nat), come.length - j = d → r.length = fs.length → 20000 + d ≤ k → rotaref08_named.l0 k sp r come (j : Int) c fs ts = some (setAll r (nam c sp (risingL (come.drop j) j))) := by
  have hnc := F.nc
  intro d
  induction d with
  | zero =>
    intro j r k hd hr hk
    obtain ⟨k, rfl⟩ : ∃ m, k = m + 1 := ⟨k - 1, by omega⟩
    rw [rotaref08_named.l0, if_neg (by omega), List.drop_eq_nil_of_le (by omega)]
    rfl
  | succ d ih =>
    intro j r k hd hr hk
    obtain ⟨k, rfl⟩ : ∃ m, k = m + 1 := ⟨k - 1, by omega⟩
    have hj : j < come.length := by omega
    have hw := rd_word hc (show (0 : Int) ≤ (j : Int) by omega) (show (j : Int) < c.length by omega)
    have hrd : rdOf false come (j : Int) = come[j] := by unfold rdOf; rw [List.getD_eq_getElem?_getD, Int.toNat_natCast, List.getElem?_eq_getElem hj]; rfl
    have hat : at_ come (j : Int) = come[j] := hrd
    rw [rotaref08_named.l0, if_pos (by omega), if_pos (by omega), if_pos (by omega), wrap1 (by omega), hrd, List.drop_eq_getElem_cons hj]
    obtain ⟨q, rfl⟩ : ∃ q, k = q + 1 := ⟨k - 1, by omega⟩
    rw [refDecode_f q _ hw.1 hw.2]
    simp only [Option.bind_some]
    have hno := ih (j + 1) r (q + 1) (by omega) hr (by omega)
    have e1 : ((j : Int) + 1) = ((j + 1 : Nat) : Int) := by omega
    unfold risingL
    by_cases hcm : come[j] = true
    · rw [if_pos hcm, if_pos hcm, e1]
      unfold nam
      have hyes : isCall sp (dec (rd c (j : Int))).1 = true → (if 0 ≤ (dec (rd c (j : Int))).2.2.2.2.1 then (if (dec (rd c (j : Int))).2.2.2.2.1 < (r.length : Int) then (rotaref08_named.l0 (q + 1) sp (r.set ((dec (rd c (j : Int))).2.2.2.2.1 : Int).toNat true) come ((j + 1 : Nat) : Int) c fs ts) else (none)) else (none)) = some (setAll r ((dec (rd c (j : Int))).2.2.2.2.1 :: nam c sp (risingL (come.drop (j + 1)) ((j + 1 : Nat) : Int)))) := by
        intro hcall
        obtain ⟨i0, i1⟩ := hin (j : Int) (by omega) (by omega) (by rw [hat, hcm]) hcall
        rw [if_pos i0, if_pos (by omega)]
        exact ih (j + 1) (r.set ((dec (rd c (j : Int))).2.2.2.2.1 : Int).toNat true) (q + 1) (by omega) (by simpa using hr) (by omega)
      by_cases h20 : (dec (rd c (j : Int))).1 = 20
      · have hcall : isCall sp (dec (rd c (j : Int))).1 = true := by rw [h20]; simp [isCall]
        rw [if_pos h20, if_pos hcall]
        exact hyes hcall
      · rw [if_neg h20]
        cases sp with
        | false =>
          rw [if_neg (by simp), if_neg (show ¬ isCall false (dec (rd c (j : Int))).1 = true by simp [isCall, h20])]
          exact hno
        | true =>
          rw [if_pos rfl]
          by_cases h22 : (dec (rd c (j : Int))).1 = 22
          · have hcall : isCall true (dec (rd c (j : Int))).1 = true := by rw [h22]; simp [isCall]
            rw [if_pos h22, if_pos hcall]
            exact hyes hcall
          · rw [if_neg h22, if_neg (show ¬ isCall true (dec (rd c (j : Int))).1 = true by simp [isCall, h20, h22])]
            exact hno
    · rw [if_neg hcm, if_neg hcm, e1]
      exact hno
theorem refnamed_ok (sp : Bool) (f : Int) (h0 : 0 ≤ f) (h1 : f < fs.length) (k : Nat) (hk : 200000000 ≤ k) : rotaref08_named.f k c fs ts f sp = some (nmS c fs ts sp f) := by
  obtain ⟨come, hcome, hcl, hris⟩ := come_ok hc F f h0 h1
  have hnf := F.nf
  have hnc := F.nc
  unfold rotaref08_named.f
  rw [if_pos (by omega), if_pos (by omega), hcome k hk]
  simp only [Option.bind_some, Int.toNat_natCast]
  have := refnamed_l0 hc F sp come hcl (fun a a0 a1 ha hcall => nam_in hc F sp f h0 h1 _ ((nam_mem c sp _ _).2 ⟨a, by rw [← hris]; exact (risingL_mem _ _).2 ⟨a0, by omega, ha⟩, hcall, rfl⟩)) come.length 0 (List.replicate fs.length false) k (by omega) (by simp) (by omega)
  rw [show ((0 : Nat) : Int) = 0 from rfl, List.drop_zero, hris] at this
  exact this
theorem nmS_len (sp : Bool) (f : Int) : (nmS c fs ts sp f).length = fs.length := by
  have := F.nf
  have := hc
  unfold nmS; rw [setAll_len]; simp
theorem nmR_mem (sp : Bool) (f : Int) (h0 : 0 ≤ f) (h1 : f < fs.length) (y : Int) : y ∈ nmR c fs ts sp f ↔ y ∈ nmL c fs ts sp f := by
  have hin := nam_in hc F sp f h0 h1
  unfold nmR nmL
  rw [risingL_mem, nmS_len hc F, addAll_mem]
  have hm : ∀ x : Int, 0 ≤ x → (at_ (nmS c fs ts sp f) x = true ↔ x ∈ nam c sp (RL c fs ts f)) := fun x hx => by
    unfold nmS
    rw [setAll_mem _ _ (fun z hz => by have := hin z hz; simpa using this) x hx, rep_at]
    simp
  constructor
  · rintro ⟨a, b, d⟩
    exact .inr ((hm y a).1 d)
  · rintro (h | h)
    · cases h
    · have := hin y h
      exact ⟨this.1, this.2, (hm y this.1).2 h⟩
end

theorem refcalls_l2 (c : List Int) (fs : List S34) (ts : List S58) (sp : Bool) (a : Int) (ha : wrap64 (a + 1) = a + 1) (n : List Bool) (hn : n.length ≤ 256) : ∀ (d j : Nat) (q : List Bool × Bool) (k : Nat), n.length - j = d → q.1.length = n.length →
    rotaref08_calls.l2 (k + d + 1) sp q.1 q.2 a n (j : Int) c fs ts = rotaref08_calls.l1 k sp (markL (risingL (n.drop j) j) q).1 (markL (risingL (n.drop j) j) q).2 (a + 1) c fs ts := by
  intro d
  induction d with
  | zero =>
    intro j q k hd hq
    rw [Nat.add_zero, rotaref08_calls.l2, if_neg (by omega), List.drop_eq_nil_of_le (by omega), ha]
    rfl
  | succ d ih =>
    intro j q k hd hq
    have hj : j < n.length := by omega
    show rotaref08_calls.l2 (k + d + 1 + 1) sp q.1 q.2 a n (j : Int) c fs ts = _
    have hnj : rdOf false n (j : Int) = n[j] := by unfold rdOf; rw [List.getD_eq_getElem?_getD, Int.toNat_natCast, List.getElem?_eq_getElem hj]; rfl
    have hqj : rdOf false q.1 (j : Int) = at_ q.1 (j : Int) := rfl
    rw [rotaref08_calls.l2, if_pos (by omega), wrap1 (by omega), hnj, hqj, List.drop_eq_getElem_cons hj]
    have e1 : ((j : Int) + 1) = ((j + 1 : Nat) : Int) := by omega
    unfold risingL
    rw [e1]
    have same : at_ q.1 (j : Int) = true → q.1.set (j : Int).toNat true = q.1 := fun h => set_same _ _ (by omega) (by omega) h
    have same0 : at_ q.1 (j : Int) = false → q.1.set (j : Int).toNat false = q.1 := fun h => by
      have hl : j < q.1.length := by omega
      unfold at_ at h
      rw [List.getD_eq_getElem?_getD, Int.toNat_natCast, List.getElem?_eq_getElem hl] at h
      apply List.ext_getElem?
      intro i
      rw [List.getElem?_set, Int.toNat_natCast]
      by_cases e : j = i
      · subst e; rw [if_pos rfl, if_pos hl, List.getElem?_eq_getElem hl]; simpa using h.symm
      · rw [if_neg e]
    have hno := ih (j + 1) q k (by omega) hq
    have hyes := ih (j + 1) (q.1.set (j : Int).toNat true, q.2 || !at_ q.1 (j : Int)) k (by omega) (by simpa using hq)
    obtain ⟨cm, mv⟩ := q
    by_cases hb : n[j] = true
    · rw [hb, if_pos rfl]
      cases mv with
      | true =>
        rw [if_pos rfl, if_pos (by omega), if_pos (by show (j : Int) < (cm.length : Int); have : cm.length = n.length := hq; omega)]
        have hy2 : rotaref08_calls.l2 (k + d + 1) sp (cm.set (j : Int).toNat true) true a n ((j + 1 : Nat) : Int) c fs ts = _ := hyes
        rw [ite_self]
        exact hy2
      | false =>
        rw [if_neg (by simp), if_pos (by omega), if_pos rfl, if_pos (by show (j : Int) < (cm.length : Int); have : cm.length = n.length := hq; omega), ite_self]
        exact hyes
    · have hb' : n[j] = false := by simpa using hb
      have hlt : (j : Int) < (cm.length : Int) := by have : cm.length = n.length := hq; omega
      rw [hb']
      cases mv with
      | true =>
        simp only [Bool.false_eq_true, if_false, if_true]
        rw [if_pos (by omega), if_pos hlt]
        cases hat : at_ cm (j : Int) with
        | true =>
          simp only [if_true]
          rw [same hat]
          exact hno
        | false =>
          simp only [Bool.false_eq_true, if_false]
          rw [same0 hat]
          exact hno
      | false =>
        simp only [Bool.false_eq_true, if_false, if_true]
        rw [if_pos (by omega), if_pos hlt]
        cases hat : at_ cm (j : Int) with
        | true =>
          simp only [if_true]
          rw [same hat]
          exact hno
        | false =>
          simp only [Bool.false_eq_true, if_false]
          rw [same0 hat]
          exact hno

section
variable {c : List Int} {fs : List S34} {ts : List S58} (hc : ∀ x ∈ c, 0 ≤ x ∧ x < 4294967296) (F : Fine c fs ts)
include hc F
theorem refcalls_l1 (sp : Bool) (R : List Bool) (K : Nat) (hK : 200000000 ≤ K) : ∀ (m : Nat) (a : Int) (q : List Bool × Bool), 0 ≤ a → a + m = fs.length → q.1.length = fs.length →
    (∀ k, K ≤ k → rotaref08_calls.l0 k sp (sweep (nmR c fs ts sp) m a q).1 (sweep (nmR c fs ts sp) m a q).2 c fs ts = some R) → ∀ k, K + 300 * m + 10 ≤ k → rotaref08_calls.l1 k sp q.1 q.2 a c fs ts = some R := by
  have hnf := F.nf
  intro m
  induction m with
  | zero =>
    intro a q h0 h1 hq hn k hk
    obtain ⟨k, rfl⟩ : ∃ m, k = m + 1 := ⟨k - 1, by omega⟩
    rw [rotaref08_calls.l1, if_neg (by omega)]
    exact hn k (by omega)
  | succ m ih =>
    intro a q h0 h1 hq hn k hk
    obtain ⟨k, rfl⟩ : ∃ m, k = m + 1 := ⟨k - 1, by omega⟩
    have hw : wrap64 (a + 1) = a + 1 := IntWalk.wrap64_in _ (by omega)
    have hrd : rdOf false q.1 a = at_ q.1 a := rfl
    rw [rotaref08_calls.l1, if_pos (by omega), if_pos h0, hrd]
    unfold sweep at hn
    by_cases h : at_ q.1 a = true
    · rw [if_pos h] at hn ⊢
      have hkK : K ≤ k := by clear hK; omega
      rw [refnamed_ok hc F sp a h0 (by clear hK; omega) k (Nat.le_trans hK hkK)]
      simp only [Option.bind_some]
      have hsl := nmS_len hc F sp a
      obtain ⟨k, rfl⟩ : ∃ z, k = z + (nmS c fs ts sp a).length + 1 := ⟨k - (nmS c fs ts sp a).length - 1, by omega⟩
      have h2 := refcalls_l2 c fs ts sp a hw (nmS c fs ts sp a) (by omega) (nmS c fs ts sp a).length 0 q k (by omega) (by omega)
      rw [show ((0 : Nat) : Int) = 0 from rfl, List.drop_zero] at h2
      rw [h2]
      have hy : ∀ y ∈ nmR c fs ts sp a, 0 ≤ y ∧ y < q.1.length := fun y hy => by
        have := (nmL_in hc F sp a h0 (by omega)).1 y ((nmR_mem hc F sp a h0 (by omega) y).1 hy); omega
      refine ih (a + 1) (markL (nmR c fs ts sp a) q) (by omega) (by omega) ?_ hn k (by omega)
      rw [(mark_ok (nmR c fs ts sp a) q hy).1.len, hq]
    · rw [if_neg h] at hn ⊢
      rw [hw]
      exact ih (a + 1) q (by omega) (by omega) hq hn k (by omega)
theorem refcalls_l0 (sp : Bool) : ∀ (m : Nat) (cm r : List Bool), cm.length = fs.length → sweeps (nmR c fs ts sp) 0 fs.length m cm = some r → ∀ k, 200000000 + m * 80000 + 2 ≤ k → rotaref08_calls.l0 k sp cm true c fs ts = some r := by
  have hnf := F.nf
  have hnx : ∀ x : Int, 0 ≤ x → x < 0 + (fs.length : Int) → ∀ y ∈ nmR c fs ts sp x, 0 ≤ y ∧ y < 0 + (fs.length : Int) := fun x a b y hy => by
    have := (nmL_in hc F sp x a (by omega)).1 y ((nmR_mem hc F sp x a (by omega) y).1 hy); omega
  intro m
  induction m with
  | zero => intro cm r _ h; cases h
  | succ m ih =>
    intro cm r hcl h k hk
    obtain ⟨k, rfl⟩ : ∃ m, k = m + 1 := ⟨k - 1, by omega⟩
    unfold sweeps at h
    rw [rotaref08_calls.l0, if_pos rfl]
    have hM := (sweep_ok (nmR c fs ts sp) 0 fs.length (Int.le_refl _) hnx fs.length 0 (cm, false) (Int.le_refl _) (by omega) (by show _ ≤ (cm.length : Int); omega)).1
    refine refcalls_l1 hc F sp r (200000000 + m * 80000 + 2) (by omega) fs.length 0 (cm, false) (Int.le_refl _) (by omega) hcl (fun k' hk' => ?_) k (by omega)
    by_cases hs : (sweep (nmR c fs ts sp) fs.length 0 (cm, false)).2 = true
    · rw [if_pos hs] at h
      rw [hs]
      exact ih _ r (hM.len.trans hcl) h k' hk'
    · rw [if_neg hs] at h
      have hs' : (sweep (nmR c fs ts sp) fs.length 0 (cm, false)).2 = false := by simpa using hs
      rw [hs']
      obtain ⟨k', rfl⟩ : ∃ m, k' = m + 1 := ⟨k' - 1, by omega⟩
      rw [rotaref08_calls.l0, if_neg (by simp)]
      exact h
theorem calls_one (sp : Bool) (f : Int) (h0 : 0 ≤ f) (h1 : f < fs.length) : ∃ L : List Int, L.length ≤ 256 ∧ (∀ k, 150000 ≤ k → proper_Calls.l0 k sp [f] 0 c fs ts = some (L, 0)) ∧ (∀ k, 300000000 ≤ k → ∃ r, rotaref08_calls.f k c fs ts f sp = some r ∧ rotaref08_rising.f k r = some L) ∧ L.Pairwise (· < ·) ∧ (∀ x, x ∈ L ↔ Rch (nmL c fs ts sp) f x) ∧ ∀ x ∈ L, 0 ≤ x ∧ x < fs.length := by
  obtain ⟨L, hL, hinc, hmem, hran⟩ := calls_ok hc F sp f h0 h1
  have hnf := F.nf
  have hlen : L.length ≤ 256 := nodup_len 256 0 L (hinc.imp (by intro a b h; omega)) (fun x hx => by have := hran x hx; omega)
  have hnx : ∀ x : Int, 0 ≤ x → x < 0 + (fs.length : Int) → ∀ y ∈ nmR c fs ts sp x, 0 ≤ y ∧ y < 0 + (fs.length : Int) := fun x a b y hy => by
    have := (nmL_in hc F sp x a (by omega)).1 y ((nmR_mem hc F sp x a (by omega) y).1 hy); omega
  have hrep : (List.replicate fs.length false).length = fs.length := by simp
  have hat : ∀ x : Int, 0 ≤ x → at_ ((List.replicate fs.length false).set f.toNat true) x = decide (x = f) := fun x hx => by
    rw [at_set _ _ _ h0 (by rw [hrep]; omega) hx, rep_at]; simp
  have hsl : ((List.replicate fs.length false).set f.toNat true).length = fs.length := by simp
  obtain ⟨r, hr, hrl, hrm⟩ := sweeps_ok (nmR c fs ts sp) f 0 fs.length (Int.le_refl _) (by omega) hnx 257 ((List.replicate fs.length false).set f.toNat true)
    (by have := left_le ((List.replicate fs.length false).set f.toNat true); rw [hsl] at this; omega) (by rw [hsl]; omega) (by rw [hat _ h0]; simp) (fun x hx h => by rw [hat x hx] at h; rw [of_decide_eq_true h]; exact .base)
  have hR : ∀ x, Rch (nmR c fs ts sp) f x ↔ Rch (nmL c fs ts sp) f x := by
    have hinR : ∀ x, Rch (nmR c fs ts sp) f x → 0 ≤ x ∧ x < fs.length := by
      intro x hx
      induction hx with
      | base => exact ⟨h0, h1⟩
      | step hx hy ih => have := hnx _ ih.1 (by omega) _ hy; omega
    have hinL : ∀ x, Rch (nmL c fs ts sp) f x → 0 ≤ x ∧ x < fs.length := fun x hx => hran x ((hmem x).2 hx)
    intro x
    constructor
    · intro hx
      induction hx with
      | base => exact .base
      | step hx hy ih => have := hinR _ hx; exact ih.step ((nmR_mem hc F sp _ this.1 this.2 _).1 hy)
    · intro hx
      induction hx with
      | base => exact .base
      | step hx hy ih => have := hinL _ hx; exact ih.step ((nmR_mem hc F sp _ this.1 this.2 _).2 hy)
  have e : risingL r 0 = L := by
    refine inc_unique _ _ (risingL_inc _ _) hinc (fun x => ?_)
    rw [risingL_mem]
    constructor
    · rintro ⟨a, b, d⟩
      exact (hmem x).2 ((hR x).1 ((hrm x a).1 d))
    · intro hx
      have h2 := hran x hx
      exact ⟨h2.1, by rw [hrl, hsl]; omega, (hrm x h2.1).2 ((hR x).2 ((hmem x).1 hx))⟩
  refine ⟨L, hlen, hL, fun k hk => ⟨r, ?_, by rw [rising_ok r (by rw [hrl, hsl]; omega) k (by rw [hrl, hsl]; omega), e]⟩, hinc, hmem, hran⟩
  unfold rotaref08_calls.f
  rw [if_pos (by omega), if_pos (by omega)]
  simp only [Option.bind_some, Int.toNat_natCast]
  rw [if_pos h0, if_pos (by rw [hrep]; omega)]
  exact refcalls_l0 hc F sp 257 _ r hsl hr k (by omega)
end
theorem Calls_both (c : List Int) (fs : List S34) (ts : List S58) (hc : ∀ x ∈ c, 0 ≤ x ∧ x < 4294967296) (f : Int) (sp : Bool) :
    ∃ L : List Int × Int, L.1.length ≤ 256 ∧ L.2 = errF c fs ts f ∧ ∀ k, 300000000 ≤ k → proper_Calls.f k c fs ts f sp = some L ∧ rotaref08_Calls.f k c fs ts f sp = some L := by
  by_cases h : (checkAll (gW c fs ts) c fs ts).2 = 0
  · obtain ⟨e, F⟩ := fine_of h
    by_cases h1 : f < 0 ∨ (fs.length : Int) ≤ f
    · refine ⟨([], 1), by simp, by unfold errF; rw [ite_chk h, if_pos h1], fun k hk => ?_⟩
      unfold proper_Calls.f rotaref08_Calls.f
      rw [function_ok c fs ts hc f k (by omega), looked_ok c fs ts hc f k (by omega)]
      simp [h, h1]
    · obtain ⟨L, hlen, hL, hr, _⟩ := calls_one hc F sp f (by omega) (by omega)
      refine ⟨(L, 0), hlen, by unfold errF; rw [ite_chk h, if_neg h1], fun k hk => ?_⟩
      obtain ⟨r, hr1, hr2⟩ := hr k hk
      unfold proper_Calls.f rotaref08_Calls.f
      rw [function_ok c fs ts hc f k (by omega), looked_ok c fs ts hc f k (by omega), hL k (by omega), hr1]
      simp [h, h1, hr2]
  · refine ⟨([], (checkAll (gW c fs ts) c fs ts).2), by simp, by unfold errF; rw [if_pos h], fun k hk => ?_⟩
    unfold proper_Calls.f rotaref08_Calls.f
    rw [function_ok c fs ts hc f k (by omega), looked_ok c fs ts hc f k (by omega)]
    simp [h]
end Go.Proofs.Ytdlikjfffdpmiaa.CProper

/- How deep calls go, of the document: layer by layer; both are one. Conditions: the program may be. -/
import Derived.Test.YtdlikjfffdpmiaaProperDE
import Derived.Test.YtdlikjfffdpmiaaProperCCB
import Derived.Test.YtdlikjfffdpmiaaQProperx55
set_option linter.unusedVariables false
set_option linter.unusedSimpArgs false
namespace Go.Proofs.Ytdlikjfffdpmiaa.CProper
open Go.RowKit Go.Proofs.Ytdlikjfffdpmiaa.QProper Go.Proofs.Ytdlikjfffdpmiaa.GProper Go.Proofs.YtdlikjfffdpmiaaW.PrintWords Go.Proofs.YtdlikjfffdpmiaaW.PrintLast Go.Proofs.YtdlikjfffdpmiaaW.PrintMore

def mk2 : List Bool → Nat → List Bool × Bool → List Bool × Bool
  | [], _, q => q
  | b :: r, j, q => mk2 r (j + 1) (q.1.set j (at_ q.1 (j : Int) || b), q.2 || b)
theorem at_set2 (c : List Bool) (j : Nat) (b : Bool) (x : Int) (h : j < c.length) (hx : 0 ≤ x) : at_ (c.set j b) x = if x = (j : Int) then b else at_ c x := by
  unfold at_
  rw [List.getD_eq_getElem?_getD, List.getElem?_set]
  by_cases e : x = (j : Int)
  · rw [if_pos e, if_pos (by omega), if_pos h]; rfl
  · rw [if_neg e, if_neg (by omega), List.getD_eq_getElem?_getD]
theorem mk2_ok : ∀ (r : List Bool) (j : Nat) (q : List Bool × Bool), j + r.length ≤ q.1.length → (mk2 r j q).1.length = q.1.length ∧ (∀ x : Int, 0 ≤ x → (at_ (mk2 r j q).1 x = true ↔ at_ q.1 x = true ∨ ∃ i : Nat, r[i]? = some true ∧ x = ((j + i : Nat) : Int))) ∧ ((mk2 r j q).2 = true ↔ q.2 = true ∨ ∃ i : Nat, r[i]? = some true) := by
  intro r
  induction r with
  | nil => intro j q _; exact ⟨rfl, fun x _ => by simp [mk2], by simp [mk2]⟩
  | cons b r ih =>
    intro j q h
    have hl : j + (r.length + 1) ≤ q.1.length := h
    have hjl : j < q.1.length := by omega
    obtain ⟨h1, h2, h3⟩ := ih (j + 1) (q.1.set j (at_ q.1 (j : Int) || b), q.2 || b) (by show j + 1 + r.length ≤ (q.1.set j _).length; rw [List.length_set]; omega)
    refine ⟨h1.trans (List.length_set ..), fun x hx => ?_, ?_⟩
    · show at_ (mk2 r (j + 1) _).1 x = true ↔ _
      rw [h2 x hx, at_set2 _ _ _ _ hjl hx]
      constructor
      · rintro (h4 | ⟨i, h4, h5⟩)
        · by_cases e : x = (j : Int)
          · rw [if_pos e, Bool.or_eq_true] at h4
            rcases h4 with h4 | h4
            · exact .inl (e ▸ h4)
            · exact .inr ⟨0, by rw [h4]; rfl, e⟩
          · rw [if_neg e] at h4; exact .inl h4
        · exact .inr ⟨i + 1, h4, by omega⟩
      · rintro (h4 | ⟨i, h4, h5⟩)
        · by_cases e : x = (j : Int)
          · rw [if_pos e, ← e, h4]; exact .inl rfl
          · rw [if_neg e]; exact .inl h4
        · cases i with
          | zero =>
            have hb : b = true := by simpa using h4
            have e : x = (j : Int) := by simpa using h5
            rw [if_pos e, hb, Bool.or_true]; exact .inl rfl
          | succ i => exact .inr ⟨i, h4, by omega⟩
    · show (mk2 r (j + 1) _).2 = true ↔ _
      rw [h3]
      show (q.2 || b) = true ∨ _ ↔ _
      rw [Bool.or_eq_true]
      constructor
      · rintro ((h4 | h4) | ⟨i, h4⟩)
        · exact .inl h4
        · exact .inr ⟨0, by rw [h4]; rfl⟩
        · exact .inr ⟨i + 1, h4⟩
      · rintro (h4 | ⟨i, h4⟩)
        · exact .inl (.inl h4)
        · cases i with
          | zero => exact .inl (.inr (by simpa using h4))
          | succ i => exact .inr ⟨i, h4⟩

theorem refdepth_l2 (c : List Int) (fs : List S34) (ts : List S58) (cm : List Bool) (e a : Int) (ha : wrap64 (a + 1) = a + 1) (n : List Bool) (hn : n.length ≤ 256) : ∀ (d j : Nat) (q : List Bool × Bool) (k : Nat), n.length - j = d → q.1.length = n.length →
    rotaref08_Depth.l2 (k + d + 1) cm e q.1 q.2 a n (j : Int) c fs ts = rotaref08_Depth.l1 k cm e (mk2 (n.drop j) j q).1 (mk2 (n.drop j) j q).2 (a + 1) c fs ts := by
  intro d
  induction d with
  | zero =>
    intro j q k hd hq
    rw [Nat.add_zero, rotaref08_Depth.l2, if_neg (by omega), List.drop_eq_nil_of_le (by omega), ha]
    rfl
  | succ d ih =>
    intro j q k hd hq
    have hj : j < n.length := by omega
    show rotaref08_Depth.l2 (k + d + 1 + 1) cm e q.1 q.2 a n (j : Int) c fs ts = _
    have hnj : rdOf false n (j : Int) = n[j] := by unfold rdOf; rw [List.getD_eq_getElem?_getD, Int.toNat_natCast, List.getElem?_eq_getElem hj]; rfl
    have hqj : rdOf false q.1 (j : Int) = at_ q.1 (j : Int) := rfl
    rw [rotaref08_Depth.l2, if_pos (by omega), if_pos (by omega), if_pos (by omega), wrap1 (by omega), hnj, hqj, Int.toNat_natCast, List.drop_eq_getElem_cons hj]
    have h := ih (j + 1) (q.1.set j (at_ q.1 (j : Int) || n[j]), q.2 || n[j]) k (by omega) (by simpa using hq)
    show _ = rotaref08_Depth.l1 k cm e (mk2 (n.drop (j + 1)) (j + 1) (q.1.set j (at_ q.1 (j : Int) || n[j]), q.2 || n[j])).1 _ (a + 1) c fs ts
    refine Eq.trans ?_ h
    obtain ⟨dp, sm⟩ := q
    cases sm with
    | true =>
      cases hat : at_ dp (j : Int) with
      | true => rw [if_pos rfl, Option.bind_some, if_pos rfl]; rfl
      | false => rw [if_neg (by simp), Option.bind_some, if_pos rfl]; rfl
    | false =>
      cases hat : at_ dp (j : Int) with
      | true => rw [if_pos rfl, Option.bind_some, if_neg (by simp)]; rfl
      | false => rw [if_neg (by simp), Option.bind_some, if_neg (by simp)]; rfl

section
variable {c : List Int} {fs : List S34} {ts : List S58} (hc : ∀ x ∈ c, 0 ≤ x ∧ x < 4294967296) (F : Fine c fs ts)
include hc F
theorem nmS_get (f : Int) (h0 : 0 ≤ f) (h1 : f < fs.length) (x : Int) : (∃ i : Nat, (nmS c fs ts false f)[i]? = some true ∧ x = ((0 + i : Nat) : Int)) ↔ x ∈ nmL c fs ts false f := by
  rw [← nmR_mem hc F false f h0 h1]
  unfold nmR
  rw [risingL_mem]
  constructor
  · rintro ⟨i, h, rfl⟩
    have hl := (List.getElem?_eq_some_iff.1 h).1
    refine ⟨by omega, by omega, ?_⟩
    rw [List.getD_eq_getElem?_getD, show ((0 + i : Nat) : Int).toNat = i by omega, h]
    rfl
  · rintro ⟨a, b, d⟩
    rw [List.getD_eq_getElem?_getD, List.getElem?_eq_getElem (by omega)] at d
    exact ⟨x.toNat, by rw [List.getElem?_eq_getElem (by omega)]; exact congrArg some d, by omega⟩
/-- One layer, so far: the functions from a on are still to be looked at. -/
def Lay (c : List Int) (fs : List S34) (ts : List S58) (f : Int) (e : Nat) (a : Int) (q : List Bool × Bool) : Prop :=
  q.1.length = fs.length ∧ (∀ x : Int, 0 ≤ x → (at_ q.1 x = true ↔ ∃ y, y < a ∧ Wk (nmL c fs ts false) f e y ∧ x ∈ nmL c fs ts false y)) ∧ (q.2 = true ↔ ∃ y x, y < a ∧ Wk (nmL c fs ts false) f e y ∧ x ∈ nmL c fs ts false y)
theorem refdepth_l1 (f : Int) (h0 : 0 ≤ f) (h1 : f < fs.length) (e : Nat) (cm : List Bool) (hcl : cm.length = fs.length) (hW : ∀ x : Int, 0 ≤ x → (at_ cm x = true ↔ Wk (nmL c fs ts false) f e x)) (R : Int × Int) (K : Nat) (hK : 200000000 ≤ K)
    (hn : ∀ q, Lay c fs ts f e fs.length q → ∀ k, K ≤ k → (if q.2 = true then rotaref08_Depth.l0 k q.1 (wrap64 ((e : Int) + 1)) c fs ts else some ((e : Int), 0)) = some R) :
    ∀ (m : Nat) (a : Int) (q : List Bool × Bool), 0 ≤ a → a + m = fs.length → Lay c fs ts f e a q → ∀ k, K + 300 * m + 10 ≤ k → rotaref08_Depth.l1 k cm (e : Int) q.1 q.2 a c fs ts = some R := by
  have hnf := F.nf
  intro m
  induction m with
  | zero =>
    intro a q g0 g1 hq k hk
    obtain ⟨k, rfl⟩ : ∃ m, k = m + 1 := ⟨k - 1, by omega⟩
    have ea : a = fs.length := by omega
    rw [rotaref08_Depth.l1, if_neg (by omega)]
    exact hn q (ea ▸ hq) k (by omega)
  | succ m ih =>
    intro a q g0 g1 hq k hk
    obtain ⟨k, rfl⟩ : ∃ m, k = m + 1 := ⟨k - 1, by omega⟩
    have hw : wrap64 (a + 1) = a + 1 := IntWalk.wrap64_in _ (by omega)
    have hrd : rdOf false cm a = at_ cm a := rfl
    rw [rotaref08_Depth.l1, if_pos (by omega), if_pos g0, hrd]
    obtain ⟨q1, q2, q3⟩ := hq
    by_cases h : at_ cm a = true
    · have hwk := (hW a g0).1 h
      rw [if_pos h]
      have hkK : K ≤ k := by clear hK; omega
      rw [refnamed_ok hc F false a g0 (by clear hK; omega) k (Nat.le_trans hK hkK)]
      rw [Option.bind_some]
      have hsl := nmS_len hc F false a
      obtain ⟨k, rfl⟩ : ∃ z, k = z + (nmS c fs ts false a).length + 1 := ⟨k - (nmS c fs ts false a).length - 1, by omega⟩
      have h2 := refdepth_l2 c fs ts cm (e : Int) a hw (nmS c fs ts false a) (by omega) (nmS c fs ts false a).length 0 q k (by omega) (by omega)
      rw [show ((0 : Nat) : Int) = 0 from rfl, List.drop_zero] at h2
      rw [h2]
      obtain ⟨m1, m2, m3⟩ := mk2_ok (nmS c fs ts false a) 0 q (by omega)
      have hget := nmS_get hc F a g0 (by omega)
      refine ih (a + 1) (mk2 (nmS c fs ts false a) 0 q) (by omega) (by omega) ⟨m1.trans q1, fun x hx => ?_, ?_⟩ k (by omega)
      · rw [m2 x hx, q2 x hx, hget x]
        constructor
        · rintro (⟨y, a1, a2, a3⟩ | h3)
          · exact ⟨y, by omega, a2, a3⟩
          · exact ⟨a, by omega, hwk, h3⟩
        · rintro ⟨y, a1, a2, a3⟩
          by_cases ey : y = a
          · exact .inr (ey ▸ a3)
          · exact .inl ⟨y, by omega, a2, a3⟩
      · rw [m3, q3]
        constructor
        · rintro (⟨y, x, a1, a2, a3⟩ | ⟨i, h3⟩)
          · exact ⟨y, x, by omega, a2, a3⟩
          · exact ⟨a, ((0 + i : Nat) : Int), by omega, hwk, (hget _).1 ⟨i, h3, rfl⟩⟩
        · rintro ⟨y, x, a1, a2, a3⟩
          by_cases ey : y = a
          · obtain ⟨i, h3, _⟩ := (hget x).2 (ey ▸ a3)
            exact .inr ⟨i, h3⟩
          · exact .inl ⟨y, x, by omega, a2, a3⟩
    · rw [if_neg h, hw]
      have hnw : ¬ Wk (nmL c fs ts false) f e a := fun h2 => h ((hW a g0).2 h2)
      refine ih (a + 1) q (by omega) (by omega) ⟨q1, fun x hx => ?_, ?_⟩ k (by omega)
      · rw [q2 x hx]
        constructor
        · rintro ⟨y, a1, a2, a3⟩; exact ⟨y, by omega, a2, a3⟩
        · rintro ⟨y, a1, a2, a3⟩
          by_cases ey : y = a
          · exact absurd (ey ▸ a2) hnw
          · exact ⟨y, by omega, a2, a3⟩
      · rw [q3]
        constructor
        · rintro ⟨y, x, a1, a2, a3⟩; exact ⟨y, x, by omega, a2, a3⟩
        · rintro ⟨y, x, a1, a2, a3⟩
          by_cases ey : y = a
          · exact absurd (ey ▸ a2) hnw
          · exact ⟨y, x, by omega, a2, a3⟩
theorem refdepth_step (f : Int) (h0 : 0 ≤ f) (h1 : f < fs.length) (e : Nat) (he : e ≤ fs.length) (cm : List Bool) (hcl : cm.length = fs.length) (hW : ∀ x : Int, 0 ≤ x → (at_ cm x = true ↔ Wk (nmL c fs ts false) f e x)) (R : Int × Int) (K : Nat) (hK : 200000000 ≤ K)
    (hnext : Has (nmL c fs ts false) (e + 1) f → ∀ cm' : List Bool, cm'.length = fs.length → (∀ x : Int, 0 ≤ x → (at_ cm' x = true ↔ Wk (nmL c fs ts false) f (e + 1) x)) → ∀ k, K ≤ k → rotaref08_Depth.l0 k cm' ((e + 1 : Nat) : Int) c fs ts = some R)
    (hstop : ¬ Has (nmL c fs ts false) (e + 1) f → R = ((e : Int), 0)) (k : Nat) (hk : K + 300 * 256 + 20 ≤ k) : rotaref08_Depth.l0 k cm (e : Int) c fs ts = some R := by
  have hnf := F.nf
  obtain ⟨k, rfl⟩ : ∃ m, k = m + 1 := ⟨k - 1, by omega⟩
  have hin : ∀ y, Wk (nmL c fs ts false) f e y → 0 ≤ y ∧ y < fs.length := Wk_in (S := fun y => 0 ≤ y ∧ y < fs.length) ⟨h0, h1⟩ (fun x hx y hy => (nmL_in hc F false x hx.1 hx.2).1 y hy) e
  rw [rotaref08_Depth.l0, if_pos (by omega), if_pos (by omega), if_pos (by rw [Int.toNat_natCast]; omega), Int.toNat_natCast]
  refine refdepth_l1 hc F f h0 h1 e cm hcl hW R K hK (fun q hq k hk => ?_) fs.length 0 (List.replicate fs.length false, false) (Int.le_refl _) (by omega) ⟨by simp, fun x hx => ?_, ?_⟩ k (by omega)
  · obtain ⟨q1, q2, q3⟩ := hq
    have hflag : q.2 = true ↔ Has (nmL c fs ts false) (e + 1) f := by
      rw [q3, Wk_Has (nmL c fs ts false) f e 1]
      constructor
      · rintro ⟨y, x, _, a2, a3⟩; exact ⟨y, a2, x, a3, trivial⟩
      · rintro ⟨y, a2, x, a3, _⟩; exact ⟨y, x, (hin y a2).2, a2, a3⟩
    by_cases hf : q.2 = true
    · rw [if_pos hf, wrap1 (by omega)]
      refine hnext (hflag.1 hf) q.1 q1 (fun x hx => ?_) k hk
      rw [q2 x hx]
      constructor
      · rintro ⟨y, _, a2, a3⟩; exact ⟨y, a2, a3⟩
      · rintro ⟨y, a2, a3⟩; exact ⟨y, (hin y a2).2, a2, a3⟩
    · rw [if_neg hf, hstop (fun h => hf (hflag.2 h))]
  · rw [rep_at]
    constructor
    · intro h; cases h
    · rintro ⟨y, a1, a2, _⟩
      have := (hin y a2).1
      omega
  · constructor
    · intro h; cases h
    · rintro ⟨y, x, a1, a2, _⟩
      have := (hin y a2).1
      omega
theorem refdepth_end (f : Int) (h0 : 0 ≤ f) (h1 : f < fs.length) (r : Nat) (hr : r ≤ fs.length) (hl : Long (nmL c fs ts false) f r) : ∀ (m e : Nat) (cm : List Bool), e + m = r → cm.length = fs.length → (∀ x : Int, 0 ≤ x → (at_ cm x = true ↔ Wk (nmL c fs ts false) f e x)) → ∀ k, 200000000 + (m + 1) * 80000 ≤ k → rotaref08_Depth.l0 k cm (e : Int) c fs ts = some ((r : Int), 0) := by
  intro m
  induction m with
  | zero =>
    intro e cm hem hcl hW k hk
    have he : e = r := by omega
    exact refdepth_step hc F f h0 h1 e (by omega) cm hcl hW _ 200000000 (Nat.le_refl _) (fun h => absurd (he ▸ h) hl.2) (fun _ => by rw [he]) k (by omega)
  | succ m ih =>
    intro e cm hem hcl hW k hk
    exact refdepth_step hc F f h0 h1 e (by omega) cm hcl hW _ (200000000 + (m + 1) * 80000) (by omega) (fun _ cm' hcl' hW' k' hk' => ih (e + 1) cm' (by omega) hcl' hW' k' hk') (fun h => absurd (Has_le' hl.1 (by omega)) h) k (by omega)
theorem refdepth_inf (f : Int) (h0 : 0 ≤ f) (h1 : f < fs.length) (hl : ∀ d, Has (nmL c fs ts false) d f) : ∀ (m e : Nat) (cm : List Bool), e + m = fs.length + 1 → cm.length = fs.length → (∀ x : Int, 0 ≤ x → (at_ cm x = true ↔ Wk (nmL c fs ts false) f e x)) → ∀ k, 200000000 + (m + 1) * 80000 ≤ k → rotaref08_Depth.l0 k cm (e : Int) c fs ts = some (-1, 0) := by
  intro m
  induction m with
  | zero =>
    intro e cm hem hcl hW k hk
    obtain ⟨k, rfl⟩ : ∃ m, k = m + 1 := ⟨k - 1, by omega⟩
    rw [rotaref08_Depth.l0, if_neg (by omega)]
  | succ m ih =>
    intro e cm hem hcl hW k hk
    exact refdepth_step hc F f h0 h1 e (by omega) cm hcl hW _ (200000000 + (m + 1) * 80000) (by omega) (fun _ cm' hcl' hW' k' hk' => ih (e + 1) cm' (by omega) hcl' hW' k' hk') (fun h => absurd (hl _) h) k (by omega)
theorem rep_set (f : Int) (h0 : 0 ≤ f) (h1 : f < fs.length) (x : Int) (hx : 0 ≤ x) : at_ ((List.replicate fs.length false).set f.toNat true) x = true ↔ Wk (nmL c fs ts false) f 0 x := by
  have := F.nf
  have := hc
  rw [at_set _ _ _ h0 (by simpa using h1) hx, rep_at]
  simp [Wk]
theorem depth_one (f : Int) (h0 : 0 ≤ f) (h1 : f < fs.length) : ∃ D : Int, (∀ k, 50000 ≤ k → ∃ kn op, dOf (fun g => proper_named.f k c fs ts g false) k f [] [] = some (D, kn, op)) ∧
    ∀ k, 300000000 ≤ k → rotaref08_Depth.l0 k ((List.replicate fs.length false).set f.toNat true) 0 c fs ts = some (D, 0) := by
  have hnf := F.nf
  obtain ⟨D, hD, hlt, hk0⟩ := depth_is hc F f h0 h1
  have hcm : ((List.replicate fs.length false).set f.toNat true).length = fs.length := by simp
  refine ⟨D, hk0, fun k hk => ?_⟩
  rcases hD with ⟨rfl, hinf⟩ | ⟨hD0, hlong, _⟩
  · exact refdepth_inf hc F f h0 h1 hinf (fs.length + 1) 0 _ (by omega) hcm (fun x hx => rep_set hc F f h0 h1 x hx) k (by omega)
  · have hDA := hlt hD0
    have := refdepth_end hc F f h0 h1 D.toNat (by omega) hlong D.toNat 0 _ (by omega) hcm (fun x hx => rep_set hc F f h0 h1 x hx) k (by omega)
    rw [show ((D.toNat : Nat) : Int) = D by omega] at this
    exact this
end
theorem Depth_both (c : List Int) (fs : List S34) (ts : List S58) (hc : ∀ x ∈ c, 0 ≤ x ∧ x < 4294967296) (f : Int) :
    ∃ D : Int × Int, ∀ k, 300000000 ≤ k → proper_Depth.f k c fs ts f = some D ∧ rotaref08_Depth.f k c fs ts f = some D := by
  by_cases h : (checkAll (gW c fs ts) c fs ts).2 = 0
  · obtain ⟨e, F⟩ := fine_of h
    by_cases h1 : f < 0 ∨ (fs.length : Int) ≤ f
    · refine ⟨(0, 1), fun k hk => ?_⟩
      unfold proper_Depth.f rotaref08_Depth.f
      rw [function_ok c fs ts hc f k (by omega), looked_ok c fs ts hc f k (by omega)]
      simp [h, h1]
    · have hnf := F.nf
      obtain ⟨D, hp, hr⟩ := depth_one hc F f (by omega) (by omega)
      refine ⟨(D, 0), fun k hk => ?_⟩
      obtain ⟨kn, op, hp⟩ := hp k (by omega)
      have hr := hr k hk
      have f0 : 0 ≤ f := by omega
      have f1 : f < (fs.length : Int) := by omega
      have h2 : fs.length ≤ 281474976710656 := by omega
      unfold proper_Depth.f rotaref08_Depth.f
      rw [function_ok c fs ts hc f k (by omega), looked_ok c fs ts hc f k (by omega)]
      simp [h, h1, hp, hr, f0, f1, h2]
  · refine ⟨(0, (checkAll (gW c fs ts) c fs ts).2), fun k hk => ?_⟩
    unfold proper_Depth.f rotaref08_Depth.f
    rw [function_ok c fs ts hc f k (by omega), looked_ok c fs ts hc f k (by omega)]
    simp [h]
end Go.Proofs.Ytdlikjfffdpmiaa.CProper

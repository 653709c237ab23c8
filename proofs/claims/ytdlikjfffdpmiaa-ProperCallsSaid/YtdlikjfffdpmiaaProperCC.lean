/- What calls and spawns of a function name, and what can run on behalf of one, of the program, plain. Conditions: the program may be. -/
import Derived.Test.YtdlikjfffdpmiaaProperK2
import Derived.Test.YtdlikjfffdpmiaaQProperx49
import Derived.Test.YtdlikjfffdpmiaaQProperx48
set_option linter.unusedVariables false
set_option linter.unusedSimpArgs false
namespace Go.Proofs.Ytdlikjfffdpmiaa.CProper
open Go.RowKit Go.Proofs.Ytdlikjfffdpmiaa.QProper Go.Proofs.Ytdlikjfffdpmiaa.GProper Go.Proofs.YtdlikjfffdpmiaaW.PrintWords Go.Proofs.YtdlikjfffdpmiaaW.PrintLast Go.Proofs.YtdlikjfffdpmiaaW.PrintMore

def isCall (sp : Bool) (op : Int) : Bool := decide (op = 20) || (sp && decide (op = 22))
def nam (c : List Int) (sp : Bool) : List Int → List Int
  | [] => []
  | a :: r => if isCall sp (dec (rd c a)).1 = true then (dec (rd c a)).2.2.2.2.1 :: nam c sp r else nam c sp r
theorem nam_mem (c : List Int) (sp : Bool) : ∀ (l : List Int) (y : Int), y ∈ nam c sp l ↔ ∃ a ∈ l, isCall sp (dec (rd c a)).1 = true ∧ (dec (rd c a)).2.2.2.2.1 = y := by
  intro l
  induction l with
  | nil => intro y; simp [nam]
  | cons a r ih =>
    intro y
    unfold nam
    by_cases h : isCall sp (dec (rd c a)).1 = true
    · rw [if_pos h, List.mem_cons, ih]
      constructor
      · rintro (rfl | ⟨b, hb, h1, h2⟩)
        · exact ⟨a, List.mem_cons_self, h, rfl⟩
        · exact ⟨b, List.mem_cons_of_mem _ hb, h1, h2⟩
      · rintro ⟨b, hb, h1, h2⟩
        rcases List.mem_cons.1 hb with rfl | hb
        · exact .inl h2.symm
        · exact .inr ⟨b, hb, h1, h2⟩
    · rw [if_neg h, ih]
      constructor
      · rintro ⟨b, hb, h1, h2⟩
        exact ⟨b, List.mem_cons_of_mem _ hb, h1, h2⟩
      · rintro ⟨b, hb, h1, h2⟩
        rcases List.mem_cons.1 hb with rfl | hb
        · exact absurd h1 h
        · exact ⟨b, hb, h1, h2⟩
theorem nam_len (c : List Int) (sp : Bool) : ∀ l : List Int, (nam c sp l).length ≤ l.length := by
  intro l
  induction l with
  | nil => exact Nat.le_refl _
  | cons a r ih =>
    unfold nam
    split
    · rw [List.length_cons, List.length_cons]; omega
    · rw [List.length_cons]; omega
theorem add1_len (l : List Int) (n : Int) : (add1 l n).length ≤ l.length + 1 := by
  unfold add1
  split
  · omega
  · rw [List.length_append, List.length_singleton]; omega

theorem shp20 : shp 20 = 4 := by decide +kernel
theorem shp22 : shp 22 = 5 := by decide +kernel
theorem call_imm {x : Int} (sp : Bool) (h : isCall sp (dec x).1 = true) : 0 ≤ (dec x).2.2.2.2.1 ∧ ((dec x).1 = 20 ∨ (dec x).1 = 22) := by
  have h2 : (dec x).1 = 20 ∨ (dec x).1 = 22 := by
    unfold isCall at h
    simp only [Bool.or_eq_true, decide_eq_true_eq, Bool.and_eq_true] at h
    rcases h with h | h
    · exact .inl h
    · exact .inr h.2
  refine ⟨?_, h2⟩
  have hlo : 0 ≤ x % 65536 := Int.emod_nonneg _ (by decide)
  unfold dec at h2 ⊢
  by_cases ho : x / 16777216 ≤ 0 ∨ 59 ≤ x / 16777216
  · rw [if_pos ho]; decide
  · rw [if_neg ho] at h2 ⊢
    generalize x / 16777216 = op at h2 ⊢
    generalize x / 1048576 % 16 = A at h2 ⊢
    generalize x / 65536 % 16 = B at h2 ⊢
    generalize x % 65536 = lo at h2 hlo ⊢
    have key : op = 20 ∨ op = 22 := by
      unfold decF bad61 at h2
      repeat' (split at h2)
      all_goals first | exact h2 | (exfalso; revert h2; decide)
    rcases key with rfl | rfl
    · rw [shp20]
      unfold decF
      rw [if_neg (by decide), if_neg (by decide), if_neg (by decide), if_neg (by decide), if_pos rfl]
      split
      · exact hlo
      · exact Int.le_refl _
    · rw [shp22]
      unfold decF
      rw [if_neg (by decide), if_neg (by decide), if_neg (by decide), if_neg (by decide), if_neg (by decide), if_pos rfl]
      split
      · exact hlo
      · exact Int.le_refl _

/-- The program's list of a function's words that can be come to. -/
def RL (c : List Int) (fs : List S34) (ts : List S58) (f : Int) : List Int := (proper_reach.f 40000 c fs ts f).getD []
/-- What they name, each once. -/
def nmL (c : List Int) (fs : List S34) (ts : List S58) (sp : Bool) (f : Int) : List Int := addAll [] (nam c sp (RL c fs ts f))

section
variable {c : List Int} {fs : List S34} {ts : List S58} (hc : ∀ x ∈ c, 0 ≤ x ∧ x < 4294967296) (F : Fine c fs ts)
include hc F
theorem RL_ok (f : Int) (h0 : 0 ≤ f) (h1 : f < fs.length) : (∀ k, 40000 ≤ k → proper_reach.f k c fs ts f = some (RL c fs ts f)) ∧ (RL c fs ts f).Pairwise (· < ·) ∧ (∀ x, x ∈ RL c fs ts f ↔ Rch (nx c) (rd_T34 fs f).f0 x) ∧ (∀ x ∈ RL c fs ts f, 0 ≤ x ∧ x < c.length) ∧ (RL c fs ts f).length ≤ 4096 := by
  obtain ⟨L, hL, hinc, hmem, hran⟩ := reach_ok hc F f h0 h1
  have e : RL c fs ts f = L := by unfold RL; rw [hL 40000 (Nat.le_refl _)]; rfl
  have hch := chain_ge _ fs 0 F.chain _ (List.mem_of_getElem? (fn_at h0 h1))
  have hnc := F.nc
  have hr : ∀ x ∈ L, 0 ≤ x ∧ x < c.length := fun x hx => by have := hran x hx; omega
  rw [e]
  exact ⟨hL, hinc, hmem, hr, nodup_len 4096 0 L (hinc.imp (by intro a b h; omega)) (fun x hx => by have := hr x hx; omega)⟩
theorem nam_in (sp : Bool) (f : Int) (h0 : 0 ≤ f) (h1 : f < fs.length) : ∀ y ∈ nam c sp (RL c fs ts f), 0 ≤ y ∧ y < fs.length := by
  intro y hy
  obtain ⟨a, ha, h2, rfl⟩ := (nam_mem c sp _ _).1 hy
  obtain ⟨i0, i1⟩ := call_imm sp h2
  have hin := nx_in F (fn_at h0 h1)
  have hr := ((RL_ok hc F f h0 h1).2.2.1 a).1 ha
  have hch := chain_ge _ fs 0 F.chain _ (List.mem_of_getElem? (fn_at h0 h1))
  have hab : (rd_T34 fs f).f0 ≤ a ∧ a < (rd_T34 fs f).f1 := by
    clear ha h2 i0 i1 hy
    induction hr with
    | base => omega
    | step hx hy ih => exact hin _ ih.1 ih.2 _ hy
  obtain ⟨_, _, w2, _⟩ := W_zero (F.word f.toNat (rd_T34 fs f) a (fn_at h0 h1) hab.1 hab.2)
  exact ⟨i0, w2 i1⟩
theorem named_l0 (sp : Bool) (L : List Int) (hL : L.length ≤ 4096) (hran : ∀ x ∈ L, 0 ≤ x ∧ x < c.length) : ∀ (d j : Nat) (acc : List Int) (k : Nat), L.length - j = d → acc.length ≤ j → 20000 + d ≤ k →
    proper_named.l0 k sp acc L L.length (j : Int) c fs ts = some (addAll acc (nam c sp (L.drop j))) := by
  intro d
  induction d with
  | zero =>
    intro j acc k hd ha hk
    obtain ⟨k, rfl⟩ : ∃ m, k = m + 1 := ⟨k - 1, by omega⟩
    rw [proper_named.l0, if_neg (by omega), List.drop_eq_nil_of_le (by omega)]
    rfl
  | succ d ih =>
    intro j acc k hd ha hk
    obtain ⟨k, rfl⟩ : ∃ m, k = m + 1 := ⟨k - 1, by omega⟩
    have hj : j < L.length := by omega
    have hx : rd L (j : Int) ∈ L := by rw [rd_in hj, List.getD_eq_getElem?_getD, List.getElem?_eq_getElem hj]; exact List.getElem_mem _
    have hr := hran _ hx
    have hnc := F.nc
    have hw : 0 ≤ rd c (rd L (j : Int)) ∧ rd c (rd L (j : Int)) < 4294967296 := by
      apply hc
      generalize rd L (j : Int) = a at hr
      unfold rd
      rw [List.getD_eq_getElem?_getD, List.getElem?_eq_getElem (show a.toNat < c.length by omega)]
      exact List.getElem_mem _
    have hdr : L.drop j = rd L (j : Int) :: L.drop (j + 1) := by
      rw [List.drop_eq_getElem_cons hj, rd_in hj, List.getD_eq_getElem?_getD, List.getElem?_eq_getElem hj]; rfl
    rw [proper_named.l0, if_pos (by omega), if_pos (by omega), if_pos (by omega), if_pos hr.1, if_pos hr.2, hdr, wrap1 (by omega)]
    obtain ⟨q, rfl⟩ : ∃ q, k = q + 9 := ⟨k - 9, by omega⟩
    rw [Decode_f q _ hw.1 hw.2]
    simp only [Option.bind_some]
    unfold nam
    have hyes : (proper_named.l0 (q + 9) sp (add1 acc (dec (rd c (rd L (j : Int)))).2.2.2.2.1) L L.length ((j + 1 : Nat) : Int) c fs ts) = some (addAll acc ((dec (rd c (rd L (j : Int)))).2.2.2.2.1 :: nam c sp (L.drop (j + 1)))) := by
      have := ih (j + 1) (add1 acc (dec (rd c (rd L (j : Int)))).2.2.2.2.1) (q + 9) (by omega) (by have := add1_len acc (dec (rd c (rd L (j : Int)))).2.2.2.2.1; omega) (by omega)
      exact this
    have hno := ih (j + 1) acc (q + 9) (by omega) (by omega) (by omega)
    have hstep : ((slices_Contains_int_int.f (q + 9) acc (dec (rd c (rd L (j : Int)))).2.2.2.2.1).bind fun t => (if t = true then (proper_named.l0 (q + 9) sp acc L L.length ((j + 1 : Nat) : Int) c fs ts) else (if acc.length < 17592186044416 then (proper_named.l0 (q + 9) sp (acc ++ [(dec (rd c (rd L (j : Int)))).2.2.2.2.1]) L L.length ((j + 1 : Nat) : Int) c fs ts) else (none)))) = some (addAll acc ((dec (rd c (rd L (j : Int)))).2.2.2.2.1 :: nam c sp (L.drop (j + 1)))) := by
      rw [contains_ok acc _ (by omega) _ (by omega)]
      simp only [Option.bind_some]
      unfold add1 at hyes
      by_cases h : acc.contains (dec (rd c (rd L (j : Int)))).2.2.2.2.1 = true
      · rw [if_pos h] at hyes ⊢; exact hyes
      · rw [if_neg h] at hyes ⊢; rw [if_pos (by omega)]; exact hyes
    by_cases h20 : (dec (rd c (rd L (j : Int)))).1 = 20
    · rw [if_pos h20, if_pos (show isCall sp (dec (rd c (rd L (j : Int)))).1 = true by rw [h20]; simp [isCall])]
      exact hstep
    · rw [if_neg h20]
      cases sp with
      | false =>
        rw [if_neg (by simp), if_neg (show ¬ isCall false (dec (rd c (rd L (j : Int)))).1 = true by simp [isCall, h20])]
        exact hno
      | true =>
        rw [if_pos rfl]
        by_cases h22 : (dec (rd c (rd L (j : Int)))).1 = 22
        · rw [if_pos h22, if_pos (show isCall true (dec (rd c (rd L (j : Int)))).1 = true by rw [h22]; simp [isCall])]
          exact hstep
        · rw [if_neg h22, if_neg (show ¬ isCall true (dec (rd c (rd L (j : Int)))).1 = true by simp [isCall, h20, h22])]
          exact hno
theorem named_ok (sp : Bool) (f : Int) (h0 : 0 ≤ f) (h1 : f < fs.length) (k : Nat) (hk : 40000 ≤ k) : proper_named.f k c fs ts f sp = some (nmL c fs ts sp f) := by
  obtain ⟨hL, _, _, hran, hlen⟩ := RL_ok hc F f h0 h1
  unfold proper_named.f nmL
  rw [hL k hk]
  simp only [Option.bind_some]
  have := named_l0 hc F sp _ hlen hran (RL c fs ts f).length 0 [] k (by omega) (by simp) (by omega)
  simpa using this
theorem nmL_in (sp : Bool) (f : Int) (h0 : 0 ≤ f) (h1 : f < fs.length) : (∀ y ∈ nmL c fs ts sp f, 0 ≤ y ∧ y < fs.length) ∧ (nmL c fs ts sp f).length ≤ 256 := by
  have hin : ∀ y ∈ nmL c fs ts sp f, 0 ≤ y ∧ y < fs.length := fun y hy => by
    rcases (addAll_mem _ _ _).1 hy with h | h
    · cases h
    · exact nam_in hc F sp f h0 h1 y h
  have hnf := F.nf
  exact ⟨hin, nodup_len 256 0 _ (addAll_nodup _ _ (by simp)) (fun x hx => by have := hin x hx; omega)⟩
end

theorem calls_l1 (c : List Int) (fs : List S34) (ts : List S58) (sp : Bool) (i : Nat) (hi : (i : Int) < 9000000000) (t : List Int) (ht : t.length ≤ 256) : ∀ (d j : Nat) (l : List Int) (k : Nat), t.length - j = d → l.length + d ≤ 10000 → 10100 ≤ k →
    proper_Calls.l1 (k + d + 1) sp l (i : Int) t t.length (j : Int) c fs ts = proper_Calls.l0 k sp (addAll l (t.drop j)) ((i + 1 : Nat) : Int) c fs ts := by
  intro d
  induction d with
  | zero =>
    intro j l k hd hl hk
    rw [Nat.add_zero, proper_Calls.l1, if_neg (by omega), List.drop_eq_nil_of_le (by omega), wrap1 (by omega)]
    rfl
  | succ d ih =>
    intro j l k hd hl hk
    have hj : j < t.length := by omega
    show proper_Calls.l1 (k + d + 1 + 1) sp l (i : Int) t t.length (j : Int) c fs ts = _
    rw [proper_Calls.l1, if_pos (by omega), if_pos (by omega), if_pos (by omega), contains_ok l _ (by omega) _ (by omega)]
    simp only [Option.bind_some]
    have hw : wrap64 ((j : Int) + 1) = ((j + 1 : Nat) : Int) := wrap1 (by omega)
    have hdr : t.drop j = rd t (j : Int) :: t.drop (j + 1) := by
      rw [List.drop_eq_getElem_cons hj, rd_in hj, List.getD_eq_getElem?_getD, List.getElem?_eq_getElem hj]; rfl
    have ea : addAll l (t.drop j) = addAll (add1 l (rd t (j : Int))) (t.drop (j + 1)) := by rw [hdr]; rfl
    rw [ea, hw]
    unfold add1
    by_cases h : l.contains (rd t (j : Int)) = true
    · rw [if_pos h, if_pos h]
      exact ih (j + 1) l k (by omega) (by omega) hk
    · rw [if_neg h, if_neg h, if_pos (by omega)]
      exact ih (j + 1) (l ++ [rd t (j : Int)]) k (by omega) (by rw [List.length_append, List.length_singleton]; omega) hk

section
variable {c : List Int} {fs : List S34} {ts : List S58} (hc : ∀ x ∈ c, 0 ≤ x ∧ x < 4294967296) (F : Fine c fs ts)
include hc F
theorem calls_l0 (sp : Bool) : ∀ (m : Nat) (l : List Int) (i : Nat) (r : List Int), bfs (nmL c fs ts sp) m l i = some r → l.Nodup → (∀ x ∈ l, 0 ≤ x ∧ x < fs.length) → i ≤ l.length → ∀ k, 300 * m + 50000 ≤ k → proper_Calls.l0 k sp l (i : Int) c fs ts = some (sorted r, 0) := by
  intro m
  induction m with
  | zero => intro l i r h; cases h
  | succ m ih =>
    intro l i r h hn hr hi k hk
    have hnf := F.nf
    have hlen := nodup_len 256 0 l hn (fun x hx => by have := hr x hx; omega)
    obtain ⟨k, rfl⟩ : ∃ q, k = q + 1 := ⟨k - 1, by omega⟩
    unfold bfs at h
    rw [proper_Calls.l0]
    by_cases hil : i < l.length
    · rw [if_pos hil] at h
      have hx : l.getD i 0 ∈ l := by
        rw [List.getD_eq_getElem?_getD, List.getElem?_eq_getElem hil]; exact List.getElem_mem _
      have hxr := hr _ hx
      obtain ⟨hin, ht⟩ := nmL_in hc F sp _ hxr.1 hxr.2
      rw [if_pos (by omega), if_pos (by omega), rd_in hil, named_ok hc F sp _ hxr.1 hxr.2 k (by omega)]
      simp only [Option.bind_some]
      obtain ⟨k, rfl⟩ : ∃ q, k = q + (nmL c fs ts sp (l.getD i 0)).length + 1 := ⟨k - (nmL c fs ts sp (l.getD i 0)).length - 1, by omega⟩
      have h1 := calls_l1 c fs ts sp i (by omega) (nmL c fs ts sp (l.getD i 0)) ht (nmL c fs ts sp (l.getD i 0)).length 0 l k (by omega) (by omega) (by omega)
      rw [show ((0 : Nat) : Int) = 0 from rfl, List.drop_zero] at h1
      rw [h1]
      obtain ⟨q, hq⟩ := addAll_pre (nmL c fs ts sp (l.getD i 0)) l
      refine ih _ (i + 1) r h (addAll_nodup _ _ hn) (fun x hx' => ?_) ?_ k (by omega)
      · rcases (addAll_mem _ _ _).1 hx' with h2 | h2
        · exact hr x h2
        · exact hin x h2
      · rw [hq, List.length_append]; omega
    · rw [if_neg hil] at h
      obtain rfl := Option.some.inj h
      rw [if_neg (by omega)]
      unfold slices_Sort_int.f
      rw [if_pos (by omega)]
      rfl
/-- The program's list of what can run on behalf of a function. -/
theorem calls_ok (sp : Bool) (f : Int) (h0 : 0 ≤ f) (h1 : f < fs.length) : ∃ L : List Int, (∀ k, 150000 ≤ k → proper_Calls.l0 k sp [f] 0 c fs ts = some (L, 0)) ∧ L.Pairwise (· < ·) ∧ (∀ x, x ∈ L ↔ Rch (nmL c fs ts sp) f x) ∧ ∀ x ∈ L, 0 ≤ x ∧ x < fs.length := by
  have hnf := F.nf
  have hnx : ∀ x : Int, 0 ≤ x → x < 0 + (fs.length : Int) → ∀ y ∈ nmL c fs ts sp x, 0 ≤ y ∧ y < 0 + (fs.length : Int) := fun x a b y hy => by
    have := (nmL_in hc F sp x a (by omega)).1 y hy; omega
  obtain ⟨r, hr, hn, hrange, hmem⟩ := bfs_ok (nmL c fs ts sp) f 0 fs.length hnx (fs.length + 1) [f] 0 (by omega) (by simp) (fun x hx => by rw [List.mem_singleton] at hx; omega) (by simp) (fun x hx => by rw [List.mem_singleton.1 hx]; exact .base) (by simp) (fun j hj => by omega)
  refine ⟨sorted r, fun k hk => ?_, sorted_inc hn, fun x => (sorted_mem r x).trans (hmem x), fun x hx => by have := hrange x ((sorted_mem r x).1 hx); omega⟩
  exact calls_l0 hc F sp _ [f] 0 r hr (by simp) (fun x hx => by rw [List.mem_singleton] at hx; omega) (by simp) k (by omega)
end
end Go.Proofs.Ytdlikjfffdpmiaa.CProper

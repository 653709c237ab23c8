/- The document's Decode, wrong and Check, plain. Conditions: the words are uint32, the functions' numbers are ints.
   In and Next of the program and of the document, plain. Conditions: the words are uint32. -/
import Derived.Test.YtdlikjfffdpmiaaProperK1
import Derived.Test.YtdlikjfffdpmiaaQProperx17
import Derived.Test.YtdlikjfffdpmiaaQProperx21
import Derived.Test.YtdlikjfffdpmiaaQProperx22
import Derived.Test.YtdlikjfffdpmiaaQProperx28
import Derived.Test.YtdlikjfffdpmiaaQProperx32
import Derived.Test.YtdlikjfffdpmiaaQProperx100
set_option linter.unusedVariables false
set_option linter.unusedSimpArgs false
namespace Go.Proofs.Ytdlikjfffdpmiaa.CProper
open Go.RowKit Go.Proofs.Ytdlikjfffdpmiaa.QProper Go.Proofs.YtdlikjfffdpmiaaW.PrintWords Go.Proofs.YtdlikjfffdpmiaaW.PrintLast Go.Proofs.YtdlikjfffdpmiaaW.PrintMore
section
variable {x : Int} (h0 : 0 ≤ x) (h1 : x < 4294967296)
include h0 h1
theorem ref1 : (Int.tdiv x 16777216) % 4294967296 = x / 16777216 := by
  rw [Int.tdiv_eq_ediv_of_nonneg h0]; exact Int.emod_eq_of_lt (by omega) (by omega)
end
theorem ref2 {x : Int} (h0 : 0 ≤ x) : (Int.tdiv x 1048576) % 16 = x / 1048576 % 16 := by
  rw [Int.tdiv_eq_ediv_of_nonneg h0]
theorem ref3 {x : Int} (h0 : 0 ≤ x) : (Int.tdiv x 65536) % 16 = x / 65536 % 16 := by
  rw [Int.tdiv_eq_ediv_of_nonneg h0]
theorem ref4 {x : Int} (h0 : 0 ≤ x) : wrap64 (Int.tmod x 65536) = x % 65536 := by
  rw [Int.tmod_eq_emod_of_nonneg h0]; exact IntWalk.wrap64_in _ (by omega)
theorem fit_in {n : Int} (h : 0 ≤ n ∧ n < 16) (b : Bool) : rotaref06_fits.f n b = some (decide (n = 0) || b) := by
  unfold rotaref06_fits.f
  by_cases c : n = 0
  · simp [c]
  · cases b with
    | false => simp [c]
    | true => rw [if_neg c, if_pos rfl, if_pos (by omega), decide_eq_true h.2]; simp
theorem fit_low {n : Int} (h : 0 ≤ n) : rotaref06_fits.f n true = some (decide (n < 16)) := by
  unfold rotaref06_fits.f
  by_cases c : n = 0
  · simp [c]
  · rw [if_neg c, if_pos rfl, if_pos (by omega)]
set_option maxHeartbeats 1000000 in
theorem refDecode_f (k : Nat) (x : Int) (h0 : 0 ≤ x) (h1 : x < 4294967296) : rotaref06_Decode.f (k + 1) x = some (dec x) := by
  have e1 := ref1 h0 h1
  have e2 := ref2 h0
  have e3 := ref3 h0
  have e4 := ref4 h0
  have ho : 0 ≤ x / 16777216 ∧ x / 16777216 < 256 := by omega
  unfold rotaref06_Decode.f dec
  rw [e1, e2, e3, e4]
  have hA : 0 ≤ x / 1048576 % 16 ∧ x / 1048576 % 16 < 16 := ⟨Int.emod_nonneg _ (by decide), Int.emod_lt_of_pos _ (by decide)⟩
  have hB : 0 ≤ x / 65536 % 16 ∧ x / 65536 % 16 < 16 := ⟨Int.emod_nonneg _ (by decide), Int.emod_lt_of_pos _ (by decide)⟩
  have hl : 0 ≤ x % 65536 ∧ x % 65536 < 65536 := ⟨Int.emod_nonneg _ (by decide), Int.emod_lt_of_pos _ (by decide)⟩
  clear e1 e2 e3 e4 h0 h1
  generalize x / 16777216 = op at ho ⊢
  generalize x / 1048576 % 16 = A at hA ⊢
  generalize x / 65536 % 16 = B at hB ⊢
  generalize x % 65536 = lo at hl ⊢
  by_cases hop : op ≤ 0 ∨ 59 ≤ op
  · have hr := rows_out op.toNat (by omega) (by omega)
    rw [show ((op.toNat : Nat) : Int) = op by omega] at hr
    rw [if_pos hop]
    cases ht : rotaref06_table.f op with
    | none => rw [ht] at hr; cases hr
    | some t =>
      rw [ht] at hr
      simp only [Option.map_some, Option.some.injEq] at hr
      simp [hr]
  · obtain ⟨hs0, hs1, -, t, ht, hts, htt⟩ := shp_of hop
    rw [if_neg hop, ht]
    generalize shp op = sh at hs0 hs1 hts ⊢
    simp only [Option.bind_some, htt, if_true, hts]
    have hsh : sh = 0 ∨ sh = 1 ∨ sh = 2 ∨ sh = 3 ∨ sh = 4 ∨ sh = 5 ∨ sh = 6 := by omega
    have f0 : ∀ b, rotaref06_fits.f 0 b = some true := fun b => by rw [fit_in (by decide)]; simp
    have hw : wrap64 (lo - 65536) = lo - 65536 := IntWalk.wrap64_in _ (by omega)
    clear ht hts htt t
    rcases hsh with rfl | rfl | rfl | rfl | rfl | rfl | rfl
    · by_cases c : lo = 0 <;> by_cases cA : A = 0 <;> by_cases cB : B = 0 <;> simp [rotaref06_Has.f, rotaref06_Decode.j0, decF, bad61, fit_in hA, fit_in hB, f0, c, cA, cB]
    · by_cases c : lo = 0 <;> by_cases cB : B = 0 <;> simp [rotaref06_Has.f, rotaref06_Decode.j0, decF, bad61, fit_in hA, fit_in hB, f0, c, cB]
    · by_cases c : lo = 0 <;> simp [rotaref06_Has.f, rotaref06_Decode.j0, decF, bad61, fit_in hA, fit_in hB, f0, c]
    · by_cases c : lo < 16 <;> simp [rotaref06_Has.f, rotaref06_Decode.j0, decF, bad61, fit_in hA, fit_in hB, fit_low hl.1, f0, c]
    · by_cases cA : A = 0 <;> by_cases cB : B = 0 <;> simp [rotaref06_Has.f, rotaref06_Decode.j0, decF, bad61, fit_in hA, fit_in hB, f0, cA, cB]
    · by_cases cB : B = 0 <;> simp [rotaref06_Has.f, rotaref06_Decode.j0, decF, bad61, fit_in hA, fit_in hB, f0, cB]
    · by_cases cB : B = 0 <;> by_cases c : lo > 32767
      · have c2 : lo ≥ 32768 := by omega
        simp [rotaref06_Has.f, rotaref06_Decode.j0, decF, bad61, fit_in hA, fit_in hB, f0, c, cB, c2, hw]
      · have c2 : ¬ lo ≥ 32768 := by omega
        simp [rotaref06_Has.f, rotaref06_Decode.j0, decF, bad61, fit_in hA, fit_in hB, f0, c, cB, c2]
      · simp [rotaref06_Has.f, rotaref06_Decode.j0, decF, bad61, fit_in hA, fit_in hB, f0, c, cB]
      · simp [rotaref06_Has.f, rotaref06_Decode.j0, decF, bad61, fit_in hA, fit_in hB, f0, c, cB]
theorem refJumps_f (op : Int) : rotaref08_jumps.f op = some (jmp op) := jumps_f op
theorem refEnds_f (op : Int) : rotaref08_ends.f op = some (endo op) := ends_f op
theorem in_l0 (c : List Int) (fs : List S34) (ts : List S58) (hf : fs.length ≤ 256) (i : Int) : ∀ (r : List S34) (j : Nat) (k : Nat), fs.drop j = r → r.length < k → rotaref08_in.l0 k i (j : Int) c fs ts = some (inn r i j) := by
  intro r
  induction r with
  | nil =>
    intro j k hd hk
    obtain ⟨k, rfl⟩ : ∃ m, k = m + 1 := ⟨k - 1, by omega⟩
    have := drop_nil hd
    simp only [rotaref08_in.l0]
    rw [if_neg (by omega)]
    rfl
  | cons f r ih =>
    intro j k hd hk
    obtain ⟨hj, hr, hd'⟩ := rd34_drop hd
    simp only [List.length_cons] at hk
    obtain ⟨k, rfl⟩ : ∃ m, k = m + 1 := ⟨k - 1, by omega⟩
    have ih' := ih (j + 1) k hd' (by omega)
    simp only [rotaref08_in.l0]
    rw [if_pos (by omega), if_pos (by omega), hr, wrap1 (by omega), ih']
    simp only [inn]
    by_cases h1 : i ≥ f.f0
    · by_cases h2 : i < f.f1
      · rw [if_pos h1, if_pos h2, if_pos ⟨h1, h2⟩]
      · rw [if_pos h1, if_neg h2, if_neg (fun h => h2 h.2)]; rfl
    · rw [if_neg h1, if_neg (fun h => h1 h.1)]; rfl
theorem in_f (c : List Int) (fs : List S34) (ts : List S58) (hf : fs.length ≤ 256) (i : Int) (k : Nat) (hk : 257 ≤ k) : rotaref08_in.f k c fs ts i = some (inn fs i 0) :=
  in_l0 c fs ts hf i fs 0 k rfl (by omega)
theorem fparts_pos (n tot : Int) (ht : 0 ≤ tot) : ∀ (r : List S34) (at_ j : Int), 0 ≤ j → (fparts n tot r at_ j).1 ≥ 0 := by
  intro r
  induction r with
  | nil => intro at_ j hj; exact ht
  | cons f r ih =>
    intro at_ j hj
    simp only [fparts]
    by_cases h : f.f0 = at_ ∧ at_ < f.f1 ∧ f.f1 ≤ n
    · rw [if_pos h]; exact ih _ _ (by omega)
    · rw [if_neg h]; exact hj
theorem rd_word {c : List Int} (hc : ∀ x ∈ c, 0 ≤ x ∧ x < 4294967296) {i : Int} (h0 : 0 ≤ i) (h1 : i < c.length) : 0 ≤ rd c i ∧ rd c i < 4294967296 := by
  apply hc
  unfold rd
  rw [List.getD_eq_getElem?_getD, List.getElem?_eq_getElem (show i.toNat < c.length by omega)]
  exact List.getElem_mem _
theorem refWrong_j0 (k : Nat) (i j : Int) (far : Bool) (c : List Int) (fs : List S34) (ts : List S58) (op A B C imm : Int) (h0 : 0 ≤ j) (h1 : j < fs.length) (he : wrap64 ((rd_T34 fs j).f1 - 1) = (rd_T34 fs j).f1 - 1) :
    rotaref08_wrong.j0 (k + 5) i j far c fs ts op A B C imm = some (if far = true then 82 else W2 fs.length ts.length op imm (decide (i = (rd_T34 fs j).f1 - 1))) := by
  simp only [rotaref08_wrong.j0]
  cases far with
  | true => simp
  | false =>
    have hj2 : ∀ big, rotaref08_wrong.j2 (k + 3) i j big c fs ts op A B C imm = some (if big = true then 83 else if decide (i = (rd_T34 fs j).f1 - 1) = true ∧ endo op = false then 84 else 0) := by
      intro big
      simp only [rotaref08_wrong.j2, he, refEnds_f, if_pos h0, if_pos h1]
      cases big with
      | true => simp
      | false =>
        by_cases h : i = (rd_T34 fs j).f1 - 1
        · cases hE : endo op <;> simp [h]
        · simp [h]
    have hj1 : ∀ big, rotaref08_wrong.j1 (k + 4) i j big c fs ts op A B C imm = some (if big = true then 81 else if op = 34 ∧ imm ≥ ts.length then 83 else if decide (i = (rd_T34 fs j).f1 - 1) = true ∧ endo op = false then 84 else 0) := by
      intro big
      simp only [rotaref08_wrong.j1, hj2]
      cases big with
      | true => simp
      | false =>
        by_cases h : op = 34
        · simp [h]
        · simp [h]
    rw [if_neg (by decide)]
    simp only [hj1, W2]
    by_cases h1 : op = 20
    · simp [h1]
    · by_cases h2 : op = 22
      · simp [h2]
      · simp [h1, h2]
theorem refWrong_f (k : Nat) (c : List Int) (fs : List S34) (ts : List S58) (i : Int) (hn : c.length ≤ 4096) (hf : fs.length ≤ 256) (hc : ∀ x ∈ c, 0 ≤ x ∧ x < 4294967296) (hch : Chain c.length fs 0) (h0 : 0 ≤ i) (h1 : i < c.length) :
    rotaref08_wrong.f (k + 300) c fs ts i = some (gW c fs ts i) := by
  obtain ⟨j, f, hj, hb0, hb1⟩ := chain_has _ fs 0 hch i h0 h1
  have hin : inn fs i 0 = j := by rw [inn_at _ fs 0 hch j f i 0 hj hb0 hb1]; omega
  have hjl : j < fs.length := by
    rcases Nat.lt_or_ge j fs.length with h | h
    · exact h
    · rw [List.getElem?_eq_none h] at hj; cases hj
  have hrd : rd_T34 fs (j : Int) = f := rd34_at hj
  have hge := chain_ge _ fs 0 hch f (List.mem_of_getElem? hj)
  have hx := rd_word hc h0 h1
  have hfar : ∀ imm : Int, imm < c.length → (inn fs imm 0 != (j : Int)) = decide (imm < f.f0 ∨ imm ≥ f.f1) := by
    intro imm him
    by_cases hq : f.f0 ≤ imm ∧ imm < f.f1
    · rw [inn_at _ fs 0 hch j f imm 0 hj hq.1 hq.2, Int.zero_add, decide_eq_false (by omega)]
      simp
    · rw [decide_eq_true (show imm < f.f0 ∨ imm ≥ f.f1 by omega)]
      have : inn fs imm 0 ≠ (j : Int) := by
        intro he
        rcases inn_is fs imm 0 with h | ⟨j', f', h, hj', a, b⟩
        · omega
        · have : j' = j := by omega
          subst this
          rw [hj] at hj'
          injection hj' with e
          subst e
          exact hq ⟨a, b⟩
      simpa using this
  unfold rotaref08_wrong.f gW
  rw [if_pos h0, if_pos h1, hin, hrd, show k + 300 = (k + 299) + 1 by omega, refDecode_f (k + 299) _ hx.1 hx.2]
  unfold W
  generalize dec (rd c i) = d
  obtain ⟨op, A, B, C, imm, er⟩ := d
  simp only [Option.bind_some, refJumps_f, in_f c fs ts hf _ (k + 299 + 1) (by omega), hin]
  have hw : ∀ far, rotaref08_wrong.j0 (k + 299 + 1) i (j : Int) far c fs ts op A B C imm = some (if far = true then 82 else W2 fs.length ts.length op imm (decide (i = f.f1 - 1))) := by
    intro far
    have := refWrong_j0 (k + 295) i (j : Int) far c fs ts op A B C imm (by omega) (by omega) (by rw [hrd]; exact IntWalk.wrap64_in _ (by omega))
    rw [hrd] at this
    exact this
  by_cases h : er = 0
  · simp only [h, if_true, ne_eq, not_true_eq_false, if_false, hw]
    cases hjm : jmp op with
    | false => simp
    | true =>
      by_cases hb : imm ≥ c.length
      · have : imm ≥ f.f1 := by omega
        simp [hb, this]
      · rw [hfar imm (by omega)]
        by_cases hE : imm < f.f0 ∨ imm ≥ f.f1
        · simp [hb, hE]
        · simp [hb, hE]
  · simp [h]
theorem refCheck_l1 (c : List Int) (fs : List S34) (ts : List S58) (hn : c.length ≤ 4096) (hf : fs.length ≤ 256) (hc : ∀ x ∈ c, 0 ≤ x ∧ x < 4294967296) (hch : Chain c.length fs 0) :
    ∀ (m : Nat) (a k : Nat), a + m = c.length → m + 301 ≤ k → rotaref08_Check.l1 k (a : Int) c fs ts = some (fw (gW c fs ts) m a) := by
  intro m
  induction m with
  | zero =>
    intro a k hm hk
    obtain ⟨k, rfl⟩ : ∃ m, k = m + 1 := ⟨k - 1, by omega⟩
    simp only [rotaref08_Check.l1]
    rw [if_neg (by omega)]
    rfl
  | succ m ih =>
    intro a k hm hk
    obtain ⟨k, rfl⟩ : ∃ m, k = m + 1 := ⟨k - 1, by omega⟩
    have ih' := ih (a + 1) k (by omega) (by omega)
    have hwr : rotaref08_wrong.f k c fs ts (a : Int) = some (gW c fs ts a) := by
      obtain ⟨q, rfl⟩ : ∃ m, k = m + 300 := ⟨k - 300, by omega⟩
      exact refWrong_f q c fs ts a hn hf hc hch (by omega) (by omega)
    simp only [rotaref08_Check.l1]
    rw [if_pos (by omega), hwr, wrap1 (by omega), ih']
    simp only [Option.bind_some, fw]
    by_cases h : gW c fs ts a = 0
    · rw [if_pos h, if_pos h]; rfl
    · rw [if_neg h, if_neg h]
theorem refCheck_l0 (c : List Int) (fs : List S34) (ts : List S58) (ht : ts.length ≤ 256) (R : Int × Int) (K : Nat) (hnext : ∀ k, K ≤ k → rotaref08_Check.l1 k 0 c fs ts = some R) :
    ∀ (r : List S58) (j k : Nat), ts.drop j = r → K + r.length + 30 ≤ k → rotaref08_Check.l0 k (j : Int) c fs ts = some (match r.findIdx? badTable with | some i => ((j : Int) + i, 83) | none => R) := by
  intro r
  induction r with
  | nil =>
    intro j k hd hk
    obtain ⟨k, rfl⟩ : ∃ m, k = m + 1 := ⟨k - 1, by omega⟩
    have := drop_nil hd
    simp only [rotaref08_Check.l0]
    rw [if_neg (by omega), hnext k (by omega)]
    rfl
  | cons t r ih =>
    intro j k hd hk
    obtain ⟨hj, hr, hd'⟩ := rd58_drop hd
    simp only [List.length_cons] at hk
    obtain ⟨k, rfl⟩ : ∃ m, k = m + 1 := ⟨k - 1, by omega⟩
    have ih' := ih (j + 1) k hd' (by omega)
    simp only [rotaref08_Check.l0]
    rw [if_pos (by omega), if_pos (by omega), hr, table_f t k (by omega), wrap1 (by omega), ih']
    simp only [Option.bind_some, List.findIdx?_cons]
    cases hb : badTable t with
    | true => simp
    | false =>
      cases hq : r.findIdx? badTable with
      | none => simp
      | some i => simp; omega
theorem refCheck_f (c : List Int) (fs : List S34) (ts : List S58) (hc : ∀ x ∈ c, 0 ≤ x ∧ x < 4294967296) (k : Nat) (hk : 20000 ≤ k) : rotaref08_Check.f k c fs ts = some (checkAll (gW c fs ts) c fs ts) := by
  obtain ⟨k, rfl⟩ : ∃ m, k = m + 1 := ⟨k - 1, by omega⟩
  unfold rotaref08_Check.f checkAll
  simp only [rotaref08_Check.j0]
  by_cases c1 : (c.length : Int) > 4096
  · simp [c1]
  by_cases c2 : (fs.length : Int) > 256
  · simp [c1, c2]
  by_cases c3 : (ts.length : Int) > 256
  · simp [c1, c2, c3]
  rw [if_neg c1, if_neg c2, if_neg (by simpa using c3), if_neg (show ¬ ((c.length : Int) > 4096 ∨ (fs.length : Int) > 256 ∨ (ts.length : Int) > 256) by omega), parts_f c fs ts (by omega) k (by omega)]
  simp only [Option.bind_some, told]
  cases hp : (fparts c.length fs.length fs 0 0).2 with
  | false =>
    have hpos : (fparts c.length fs.length fs 0 0).1 ≥ 0 := fparts_pos _ _ (by omega) fs 0 0 (by omega)
    simp [hpos]
  | true =>
    have hch := chain_of _ _ _ _ _ hp
    have hl := refCheck_l0 c fs ts (by omega) (fw (gW c fs ts) c.length 0) 5000 (fun k' hk' => by
      have := refCheck_l1 c fs ts (by omega) (by omega) hc hch c.length 0 k' (by omega) (by omega)
      simpa using this) ts 0 k rfl (by omega)
    simp only [if_true]
    rw [if_neg (by decide)]
    have hl' : rotaref08_Check.l0 k 0 c fs ts = _ := hl
    rw [hl']
    cases ts.findIdx? badTable with
    | none => simp
    | some i => simp
theorem checks (c : List Int) (fs : List S34) (ts : List S58) (hc : ∀ x ∈ c, 0 ≤ x ∧ x < 4294967296) (k : Nat) (hk : 20000 ≤ k) : proper_Check.f k c fs ts = some (checkAll (gW c fs ts) c fs ts) :=
  check_f (gW c fs ts) c fs ts hc (fun _ h => gW_in c fs ts h) k hk
end Go.Proofs.Ytdlikjfffdpmiaa.CProper
set_option linter.unusedVariables false
set_option linter.unusedSimpArgs false
namespace Go.Proofs.Ytdlikjfffdpmiaa.CProper
open Go.RowKit Go.Proofs.Ytdlikjfffdpmiaa.QProper Go.Proofs.YtdlikjfffdpmiaaW.PrintWords Go.Proofs.YtdlikjfffdpmiaaW.PrintLast Go.Proofs.YtdlikjfffdpmiaaW.PrintMore
section
variable (c : List Int) (fs : List S34) (ts : List S58) (hc : ∀ x ∈ c, 0 ≤ x ∧ x < 4294967296) (at_ : Int) (k : Nat) (hk : 20000 ≤ k)
include hc hk
theorem looked_ok (m : Int) : rotaref08_looked.f k c fs ts at_ m = some (if (checkAll (gW c fs ts) c fs ts).2 ≠ 0 then (checkAll (gW c fs ts) c fs ts).2 else if at_ < 0 ∨ m ≤ at_ then 1 else 0) := by
  unfold rotaref08_looked.f
  rw [refCheck_f c fs ts hc k hk]
  simp only [Option.bind_some]
  by_cases h : (checkAll (gW c fs ts) c fs ts).2 = 0
  · rw [if_pos h, ite_chk h]
    by_cases h1 : at_ < 0
    · rw [if_pos h1, if_pos (Or.inl h1)]
    · by_cases h2 : at_ ≥ m
      · rw [if_neg h1, if_pos h2, if_pos (Or.inr h2)]
      · rw [if_neg h1, if_neg h2, if_neg (by omega)]
  · rw [if_neg h, if_pos h]
theorem refIn_ok : rotaref08_In.f k c fs ts at_ = some (if (checkAll (gW c fs ts) c fs ts).2 ≠ 0 then (0, (checkAll (gW c fs ts) c fs ts).2) else if at_ < 0 ∨ (c.length : Int) ≤ at_ then (0, 1) else (inn fs at_ 0, 0)) := by
  unfold rotaref08_In.f
  rw [looked_ok c fs ts hc at_ k hk]
  simp only [Option.bind_some]
  by_cases h : (checkAll (gW c fs ts) c fs ts).2 = 0
  · obtain ⟨e, F⟩ := fine_of h
    rw [ite_chk h, ite_chk h]
    by_cases h1 : at_ < 0 ∨ (c.length : Int) ≤ at_
    · rw [if_pos h1, if_pos h1, if_neg (by decide)]
    · rw [if_neg h1, if_neg h1, if_pos rfl, in_f c fs ts F.nf at_ k (by omega)]; rfl
  · rw [if_pos h, if_pos h, if_neg h]
theorem refnext_ok (hn : c.length ≤ 4096) (h0 : 0 ≤ at_) (h1 : at_ < c.length) : rotaref08_next.f k c fs ts at_ = some (nexts (rd c at_) at_) := by
  have hx := rd_word hc h0 h1
  obtain ⟨k, rfl⟩ : ∃ m, k = m + 1 := ⟨k - 1, by omega⟩
  have hw : wrap64 (at_ + 1) = at_ + 1 := IntWalk.wrap64_in _ (by omega)
  unfold rotaref08_next.f nexts
  rw [if_pos h0, if_pos h1, refDecode_f k (rd c at_) hx.1 hx.2]
  simp only [Option.bind_some, refJumps_f, refEnds_f, rotaref08_next.j0, hw]
  generalize (dec (rd c at_)).1 = op
  generalize (dec (rd c at_)).2.2.2.2.1 = imm
  by_cases h17 : op = 17
  · rw [if_pos h17, if_pos h17]
  rw [if_neg h17, if_neg h17]
  cases endo op with
  | true => rfl
  | false =>
    cases jmp op with
    | false => simp
    | true =>
      by_cases e : imm = at_ + 1
      · simp [e]
      · by_cases hl : imm < at_ + 1
        · simp [e, hl]
        · simp [e, hl]
theorem refNext_ok : rotaref08_Next.f k c fs ts at_ = some (nextAll c fs ts at_) := by
  unfold rotaref08_Next.f nextAll
  rw [looked_ok c fs ts hc at_ k hk]
  simp only [Option.bind_some]
  by_cases h : (checkAll (gW c fs ts) c fs ts).2 = 0
  · obtain ⟨e, F⟩ := fine_of h
    rw [ite_chk h, ite_chk h]
    by_cases h1 : at_ < 0 ∨ (c.length : Int) ≤ at_
    · rw [if_pos h1, if_pos h1]; rfl
    · rw [if_neg h1, if_neg h1, if_pos rfl, refnext_ok c fs ts hc at_ k hk F.nc (by omega) (by omega)]; rfl
  · rw [if_pos h, if_pos h, if_neg h]
end
theorem same_l0 (l : List Int) (hl : (l.length : Int) < 9223372036854775807) : ∀ (d j k : Nat), l.length - j = d → d < k → rotalaw08_sameInts.l0 k l l (j : Int) = some true := by
  intro d
  induction d with
  | zero =>
    intro j k hd hk
    obtain ⟨k, rfl⟩ : ∃ m, k = m + 1 := ⟨k - 1, by omega⟩
    simp only [rotalaw08_sameInts.l0]
    rw [if_neg (by omega)]
  | succ d ih =>
    intro j k hd hk
    obtain ⟨k, rfl⟩ : ∃ m, k = m + 1 := ⟨k - 1, by omega⟩
    simp only [rotalaw08_sameInts.l0]
    rw [if_pos (by omega), if_pos (by omega), if_pos (by omega), if_pos trivial, wrap1 (by omega)]
    exact ih (j + 1) k (by omega) (by omega)
theorem same_ok (l : List Int) (hl : (l.length : Int) < 9223372036854775807) (k : Nat) (hk : l.length < k) : rotalaw08_sameInts.f k l l = some true := by
  unfold rotalaw08_sameInts.f
  rw [if_pos rfl]
  exact same_l0 l hl l.length 0 k (by omega) (by omega)
end Go.Proofs.Ytdlikjfffdpmiaa.CProper

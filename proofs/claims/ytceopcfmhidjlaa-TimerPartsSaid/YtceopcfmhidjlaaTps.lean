/- The law TimerParts, walked. Conditions: none. -/
import Derived.Test.YtceopcfmhidjlaaTmd
import Derived.Test.YtceopcfmhidjlaaTpp
set_option linter.unusedVariables false
set_option linter.unusedSimpArgs false
namespace Go.Proofs.Ytceopcfmhidjlaa.PTimerPlays
open Go.RowKit Go.Proofs.Ytceopcfmhidjlaa.Ef Go.Proofs.Ytceopcfmhidjlaa.Mp Go.Proofs.Ytceopcfmhidjlaa.Hp Go.Proofs.YtceopcfmhidjlaaW.PrintWords Go.Proofs.YtceopcfmhidjlaaW.PrintLast Go.Proofs.YtceopcfmhidjlaaW.PrintMore

theorem at_tm {w : World} {A : Option Addr} {n : Nat} {xs : List Tm} (h : Kd.C kT w A n xs) (i : Nat) (h1 : i < n) : ∃ ad : Addr, A = some ad ∧ w.cell? (ad.add (i * 8)) = some (.int .i64 (tn xs i).f0) ∧ w.cell? ⟨(ad.add (i * 8)).block, (ad.add (i * 8)).off + 1, none⟩ = some (.int .i64 (tn xs i).f1) ∧ w.cell? ⟨(ad.add (i * 8)).block, (ad.add (i * 8)).off + 2, none⟩ = some (.int .i64 (tn xs i).f2.f0) ∧ w.cell? ⟨(ad.add (i * 8)).block, (ad.add (i * 8)).off + 3, none⟩ = some (.int .i64 (tn xs i).f2.f1) ∧ w.cell? ⟨(ad.add (i * 8)).block, (ad.add (i * 8)).off + 4, none⟩ = some (.int .i64 (tn xs i).f3) ∧ w.cell? ⟨(ad.add (i * 8)).block, (ad.add (i * 8)).off + 5, none⟩ = some (.int .u64 (tn xs i).f4) ∧ w.cell? ⟨(ad.add (i * 8)).block, (ad.add (i * 8)).off + 6, none⟩ = some (.bool (tn xs i).f5) ∧ w.cell? ⟨(ad.add (i * 8)).block, (ad.add (i * 8)).off + 7, none⟩ = some (.int .u64 (tn xs i).f6) := by
  obtain ⟨ad, c, e, _, hK, hc0⟩ := Kd.C_get h (default : Tm) (i : Int) (by omega) (by omega)
  rw [Int.toNat_natCast] at hc0 hK
  have hc : ∀ j u, c[j]? = some u → w.cell? (ad.add (i * 8 + j)) = some u := hc0
  obtain rfl := k40_open hK
  exact ⟨ad, e, hc 0 _ rfl, by rw [← add_field _ _ 1 (by omega)]; exact hc 1 _ rfl, by rw [← add_field _ _ 2 (by omega)]; exact hc 2 _ rfl, by rw [← add_field _ _ 3 (by omega)]; exact hc 3 _ rfl, by rw [← add_field _ _ 4 (by omega)]; exact hc 4 _ rfl, by rw [← add_field _ _ 5 (by omega)]; exact hc 5 _ rfl, by rw [← add_field _ _ 6 (by omega)]; exact hc 6 _ rfl, by rw [← add_field _ _ 7 (by omega)]; exact hc 7 _ rfl⟩
theorem ntV_take {l : List Tm} {k : Nat} (hk : k < l.length) : ntV (l.take (k + 1)) = if (tn l k).f1 = 3 then ntV (l.take k) else ntV (l.take k) ++ [tn l k] := by
  have et : tn l k = l[k] := by unfold tn; rw [List.getElem?_eq_getElem hk]; rfl
  unfold ntV
  rw [List.take_succ_eq_append_getElem hk, List.filter_append, et]
  by_cases h : l[k].f1 = 3
  · rw [if_pos h]; simp [h]
  · rw [if_neg h]; simp [h]
set_option maxHeartbeats 4000000 in
set_option maxRecDepth 100000 in
theorem plain_calls (A : Option Addr) (c : Nat) (l : List Tm) (w : World) (hr : Kd.C kT w A l.length l) (hl : l.length ≤ 1000000) :
    Calls Try.prog 19 #[.slice A l.length c] w fun e w' => ∃ v, e = .returned v ∧ kT.R 40 w' w.heap.size (fun k => w.heap.size ≤ k ∧ k < w'.heap.size) v (ntV l) ∧ Below w.heap.size w w' := by
  have hu37 := Try.underlying37
  have HR := Aside0.mk hr
  have HB := Aside0.mk (Below.refl w.heap.size w)
  clear hr
  go_enter Try.func19, Try.ntmps19
  go_wp2
  go_loopw [3, 4] (fun v3 v4 wr => ∃ i : Nat, v4 = .int .i64 (i : Int) ∧ Aside0 (i ≤ l.length) ∧ Aside0 (kT.R 40 wr w.heap.size (fun k => w.heap.size ≤ k) v3 (ntV (l.take i))) ∧ Aside0 (Below w.heap.size w wr)) (fun _ v4 _ => l.length + 1 - (intOf v4).toNat)
  case atStart => exact ⟨0, rfl, ⟨Nat.zero_le _⟩, ⟨Kd.R_nil _ _ _ _ _⟩, HB⟩
  case round =>
    clear HB
    obtain ⟨i, rfl, HI, HO, HB⟩ := hrel
    obtain ⟨A3, c3, rfl⟩ := Kd.R_slice HO.out
    by_cases hlt : (i : Int) < (l.length : Int)
    · have hin : i < l.length := by omega
      have hin0 : (0 : Int) ≤ (i : Int) := by omega
      obtain ⟨ad, rfl, hx0, hx1, hx2, hx3, hx4, hx5, hx6, hx7⟩ := at_tm HR.out i hin
      obtain ⟨x, hx⟩ : ∃ x, tn l i = x := ⟨_, rfl⟩
      rw [hx] at hx0 hx1 hx2 hx3 hx4 hx5 hx6 hx7
      have HX := Aside0.mk hx
      clear hx
      replace hx0 := (HB.out.cell (World.block_lt_of_cell? w _ hx0)).trans hx0
      replace hx1 := (HB.out.cell (World.block_lt_of_cell? w _ hx1)).trans hx1
      replace hx2 := (HB.out.cell (World.block_lt_of_cell? w _ hx2)).trans hx2
      replace hx3 := (HB.out.cell (World.block_lt_of_cell? w _ hx3)).trans hx3
      replace hx4 := (HB.out.cell (World.block_lt_of_cell? w _ hx4)).trans hx4
      replace hx5 := (HB.out.cell (World.block_lt_of_cell? w _ hx5)).trans hx5
      replace hx6 := (HB.out.cell (World.block_lt_of_cell? w _ hx6)).trans hx6
      replace hx7 := (HB.out.cell (World.block_lt_of_cell? w _ hx7)).trans hx7
      by_cases h3 : x.f1 = 3
      · have h3' : (x.f1 == 3) = true := by simpa using h3
        have H3 := Aside0.mk h3
        clear h3
        go_wp2
        go_roundw
        case rel => exact ⟨i + 1, by go_num, ⟨by omega⟩, ⟨by rw [ntV_take hin, HX.out, if_pos H3.out]; exact HO.out⟩, HB⟩
        case measure => simp [intOf]; omega
      · have h3' : (x.f1 == 3) = false := by simpa using h3
        have H3 := Aside0.mk h3
        clear h3
        have HLn := Aside0.mk (show (ntV (l.take i)).length ≤ 1000000 from Nat.le_trans (List.length_filter_le _ _) (by rw [List.length_take]; omega))
        obtain ⟨T', hT'⟩ : ∃ T', ntV (l.take i) = T' := ⟨_, rfl⟩
        rw [hT'] at HO HLn ⊢
        have HT' := Aside0.mk hT'
        clear hT'
        go_wp2_with ((with_reducible refine gate_builtin (b := .append) (xs := #[.tmp 17, .tmp 22]) rfl ?_); (at_builtin; refine Kd.R_append kT (w0 := w) (W := _) w.heap.size rfl (.tmp 17) (.tmp 22) 37 40 (.agg #[.int .i64 0, .int .i64 0, .int .i64 0, .int .i64 0, .int .i64 0, .int .u64 0, .bool false, .int .u64 0]) 64 rfl Try.underlying37 infoT rfl (by decide) (by omega) (.slice A3 T'.length c3) T' (x : Tm) [.int .i64 x.f0, .int .i64 x.f1, .int .i64 x.f2.f0, .int .i64 x.f2.f1, .int .i64 x.f3, .int .u64 x.f4, .bool x.f5, .int .u64 x.f6] (fun k => w.heap.size ≤ k) (fun _ => False) rfl rfl ?aP (fun _ hk => hk.elim) ?aF HO.out HB.out HB.out.size ?aL ?_; (case aP => exact k40_mkM _ _ _ _); (case aF => exact fun k hk => Nat.le_trans HB.out.size hk); (case aL => have := HLn.out; omega); intro v8 w9 hrow hb9 hg9 hat; have HO9 := Aside0.mk hrow; have HB9 := Aside0.mk hb9; clear hrow hb9 hg9 hat hx0 hx1 hx2 hx3 hx4 hx5 hx6 hx7))
        go_roundw
        case rel => exact ⟨i + 1, by go_num, ⟨by omega⟩, ⟨by rw [ntV_take hin, HX.out, if_neg H3.out, HT'.out]; exact HO9.out⟩, HB9⟩
        case measure => simp [intOf]; omega
    · have hi : i = l.length := by have := HI.out; omega
      have HOe : Aside0 (kT.R 40 wr w.heap.size (fun k => w.heap.size ≤ k ∧ k < wr.heap.size) (.slice A3 (ntV l).length c3) (ntV l)) := ⟨by have h := HO.out; rw [hi, List.take_length] at h; exact Kd.R_mono (Kd.R_bound h) (fun k q => ⟨q.1, q.2.2.1⟩)⟩
      go_wp2
      go_ret
      exact ⟨_, rfl, HOe.out, HB.out⟩
def fitsP (ops : List OpT) : Prop := ops.length ≤ 3000000000000 ∧ ∀ o ∈ ops, u64 o.f3 ∧ u64 o.f4
instance (ops : List OpT) : Decidable (fitsP ops) := inferInstanceAs (Decidable (_ ∧ _))
def rotalaw14_TimerParts.f (k : Nat) (ops : List OpT) (a b : Int) : Option Bool := if fitsP ops ∧ u64 a ∧ u64 b then some true else none
set_option maxHeartbeats 8000000 in
set_option maxRecDepth 100000 in
theorem rotalaw14_TimerParts.calls (k : Nat) (A0 : Option Addr) (c0 : Nat) (ops : List OpT) (a b : Int) (r : Bool) (w : World) (hr0 : Kd.C k52 w A0 ops.length ops) (hc0 : ops.length ≤ c0) (h : rotalaw14_TimerParts.f k ops a b = some r) :
    Calls Try.prog 5 #[.slice A0 ops.length c0, .int .u64 a, .int .u64 b] w fun e w' => e = .returned (.bool r) ∧ Below w.heap.size w w' := by
  have hr : (fitsP ops ∧ u64 a ∧ u64 b) ∧ r = true := by
    unfold rotalaw14_TimerParts.f at h
    by_cases hc : fitsP ops ∧ u64 a ∧ u64 b
    · rw [if_pos hc] at h; exact ⟨hc, (Option.some.inj h).symm⟩
    · rw [if_neg hc] at h; cases h
  obtain ⟨⟨hf, ha, hb⟩, rfl⟩ := hr
  have hu37 := Try.underlying37
  have HR0 := Aside0.mk hr0
  have HFi := Aside0.mk hf
  have hlo := hf.1
  have HUa := Aside0.mk ha
  have HUb := Aside0.mk hb
  have TK1 := Aside0.mk trivial
  clear hr0 h hf ha hb
  by_cases hab : b < a
  · have HAB := Aside0.mk (Int.le_of_lt hab)
    go_enter Try.func5, Try.ntmps5
    go_wp2_with (first
      | (go_at_call 15; clear TK1; (refine (made_calls A0 c0 ops _ HR0.out HFi.out.1 HFi.out.2).mono ?_); rintro e w1 ⟨p, ok, S, rfl, hT, hru, hbn, hb⟩; have HT1 := Aside0.mk hT; have HRu := Aside0.mk hru; have HBn := Aside0.mk hbn; have HB1 := Aside0.mk hb; have HR1 := Aside0.mk (Kd.C_below HR0.out hb); have TK2 := Aside0.mk trivial; clear hT hru hbn hb)
      | (go_at_call 15; clear TK2; (refine (made_calls A0 c0 ops _ HR1.out HFi.out.1 HFi.out.2).mono ?_); rintro e w2 ⟨q, okq, S', rfl, hT, hru, hbn, hb⟩; obtain rfl := runs_det HRu.out hru; have HTt := Aside0.mk (HT1.out.below hb); have HTu := Aside0.mk (hT.lower HB1.out.size); have HB2 := Aside0.mk (HB1.out.trans (below_up hb HB1.out.size)); have HDq := Aside0.mk (show ∀ k, okq k → k < w2.heap.size ∧ ¬ ok k from fun k r => ⟨(hT.bound k r).2, fun o => by have h1 := (HT1.out.bound k o).2; have h2 := (hT.bound k r).1; omega⟩); have HSz := Aside0.mk hb.size; have TK3 := Aside0.mk trivial; clear hT hru hbn hb HT1 HB1 HR1)
      | (go_at_call 16; clear TK3; (refine (due_calls w.heap.size p ok S b _ HTt.out HBn.out.rng (by have := HBn.out.next; omega) HUb.out.1 HUb.out.2).mono ?_); rintro e w3 ⟨ok2, okL1, v1, l1, R1, rfl, hp, hm, hT, hr, hd, hk, hF⟩; have HD1 := Aside0.mk (show DueTo b S l1 (l1.foldl (rearm b) R1) from ⟨R1, hp, hm, rfl⟩); have HB3 := Aside0.mk (HB2.out.trans hF.b); have HT3 := Aside0.mk hT; have HTu3 := Aside0.mk (HTu.out.kept hF.k (fun k r => (HDq.out k r).2)); have HL1 := Aside0.mk (Kd.R_mono (Kd.R_bound hr) (ok' := fun k => w2.heap.size ≤ k ∧ k < w3.heap.size ∧ ¬ ok2 k) (fun k r => ⟨(hd k r.1).2, r.2.2.1, (hd k r.1).1⟩)); have HK2 := Aside0.mk (show ∀ k, okq k → ¬ ok2 k from fun k r o => (hk k o).elim (HDq.out k r).2 (fun s => absurd (HDq.out k r).1 (Nat.not_lt.2 s))); have HS3 := Aside0.mk hF.size; have HF1 := Aside0.mk HTt.out.fine; have HO1 := Aside0.mk HTt.out.once; have TK4 := Aside0.mk trivial; clear hp hm hT hr hd hk hF HTt HTu HB2)
      | (go_at_call 16; clear TK4; (refine (due_calls w.heap.size p ok2 (l1.foldl (rearm b) R1) a _ HT3.out (HBn.out.due HF1.out HD1.out).rng (by have := (HBn.out.due HF1.out HD1.out).next; omega) HUa.out.1 HUa.out.2).mono ?_); rintro e w4 ⟨ok3, okL2, v2, l2, R2, rfl, hp, hm, hT, hr, hd, hk, hF⟩; have HD2 := Aside0.mk (show DueTo a (l1.foldl (rearm b) R1) l2 (l2.foldl (rearm a) R2) from ⟨R2, hp, hm, rfl⟩); have HB4 := Aside0.mk (HB3.out.trans hF.b); have HTu4 := Aside0.mk (HTu3.out.kept hF.k HK2.out); have HL14 := Aside0.mk (Kd.R_kept HL1.out hF.k (fun k r => r.2.2)); have HL2 := Aside0.mk (Kd.R_mono (Kd.R_bound hr) (ok' := fun k => w3.heap.size ≤ k) (fun k r => (hd k r.1).2)); have HS4 := Aside0.mk hF.size; have HF2 := Aside0.mk HT3.out.fine; have HO2 := Aside0.mk HT3.out.once; obtain ⟨A1, c1, rfl⟩ := Kd.R_slice HL14.out; obtain ⟨A2, c2, rfl⟩ := Kd.R_slice HL2.out; have HLL := Aside0.mk (show l1.length ≤ 1024 ∧ l2.length ≤ 1024 from ⟨due_len HF1.out HD1.out, due_len HF2.out HD2.out⟩); have TK5 := Aside0.mk trivial; clear hp hm hT hr hd hk hF HT3 HTu3 HB3 HL1)
      | ((with_reducible refine gate_builtin (b := .append) (xs := #[.tmp 28, .tmp 31]) rfl ?_); (at_builtin; refine Kd.R_append_rows kT (w0 := w) w.heap.size rfl (.tmp 28) (.tmp 31) 37 40 (.agg #[.int .i64 0, .int .i64 0, .int .i64 0, .int .i64 0, .int .i64 0, .int .u64 0, .bool false, .int .u64 0]) 64 rfl Try.underlying37 infoT rfl (by decide) (by omega) (.slice A1 l1.length c1) l1 l2 _ _ _ (fun k => w2.heap.size ≤ k) (fun _ => False) rfl rfl ?aO ?aR (fun _ _ h => h) (fun _ h => h.elim) ?aF HB4.out HB4.out.size ?aL ?_; (case aO => exact Kd.R_mono HL14.out (fun k r => r.1)); (case aR => exact (Kd.R_reads' HL2.out).2.2); (case aF => exact fun k hk => Nat.le_trans HS3.out (Nat.le_trans HS4.out hk)); (case aL => have := HLL.out; omega); intro v5 w5 hrow hb5 hg5 hat; (obtain ⟨Lc, hLc⟩ : ∃ L, l1 ++ l2 = L := ⟨_, rfl⟩); rw [hLc] at hrow; have HLc := Aside0.mk hLc; have HLcl := Aside0.mk (show Lc.length ≤ 1000000 by rw [← hLc, List.length_append]; have := HLL.out; omega); clear hLc; have HB5 := Aside0.mk hb5; have HL5 := Aside0.mk hrow; have HTu5 := Aside0.mk (HTu4.out.kept (Kept.of_grown hg5 (Kept.refl _ (fun k => w2.heap.size ≤ k)) (fun k e => .inl ((HL14.out.1 k e).1))) (fun k r o => absurd (HDq.out k r).1 (Nat.not_lt.2 o))); obtain ⟨A5, c5, rfl⟩ := Kd.R_slice hrow; have TK6 := Aside0.mk trivial; clear hrow hb5 hg5 hat HL14 HTu4 HB4))
      | (go_at_call 19; clear TK6; (refine (plain_calls A5 c5 Lc _ (Kd.R_reads' HL5.out).2.2 HLcl.out).mono ?_); rintro e w6 ⟨v6, rfl, hr, hb⟩; have HB6 := Aside0.mk (HB5.out.trans (below_up hb HB5.out.size)); have HTu6 := Aside0.mk (HTu5.out.below hb); have HL6 := Aside0.mk hr; have HS6 := Aside0.mk (show ∀ k, okq k → k < w5.heap.size from fun k r => (HTu5.out.bound k r).2); have TK7 := Aside0.mk trivial; clear hr hb HB5 HTu5 HL5)
      | (go_at_call 16; clear TK7; (refine (due_calls w.heap.size q okq S a _ HTu6.out HBn.out.rng (by have := HBn.out.next; omega) HUa.out.1 HUa.out.2).mono ?_); rintro e w7 ⟨ok7, okL7, v7, l3, R3, rfl, hp, hm, hT, hr, hd, hk, hF⟩; have HD3 := Aside0.mk (show DueTo a S l3 (l3.foldl (rearm a) R3) from ⟨R3, hp, hm, rfl⟩); have HB7 := Aside0.mk (HB6.out.trans hF.b); have HL67 := Aside0.mk (Kd.R_kept HL6.out hF.k (fun k r o => absurd (HS6.out k o) (Nat.not_lt.2 r.1))); have HL7 := Aside0.mk hr; obtain ⟨A7, c7, rfl⟩ := Kd.R_slice hr; have HLl3 := Aside0.mk (due_len HF1.out HD3.out); have TK8 := Aside0.mk trivial; clear hp hm hT hr hd hk hF HTu6 HB6 HL6)
      | (go_at_call 19; clear TK8; (refine (plain_calls A7 c7 l3 _ (Kd.R_reads' HL7.out).2.2 (by have := HLl3.out; omega)).mono ?_); rintro e w8 ⟨v8, rfl, hr, hb⟩; have HB8 := Aside0.mk (HB7.out.trans (below_up hb HB7.out.size)); have HL68 := Aside0.mk (Kd.R_below HL67.out hb); have HL8 := Aside0.mk hr; have HEq := Aside0.mk (parts_plain HAB.out HF1.out HO1.out HF2.out HO2.out HD1.out HD2.out HD3.out); (rw [HLc.out] at HEq); have HLp := Aside0.mk (show (ntV l3).length ≤ 1000000 from Nat.le_trans (List.length_filter_le _ _) (by have := HLl3.out; omega)); clear hr hb HL67 HB7 HL7; rw [HEq.out] at HL68; obtain ⟨A6, c6, rfl⟩ := Kd.R_slice HL68.out; obtain ⟨A8, c8, rfl⟩ := Kd.R_slice HL8.out)
      | (go_at_call 18; (refine (rotaref14_Same.calls _ A6 c6 (ntV l3) A8 c8 (ntV l3) true _ (Kd.R_reads' HL68.out).2.2 (Kd.R_reads' HL68.out).2.1 (Kd.R_reads' HL8.out).2.2 (Kd.R_reads' HL8.out).2.1 (same_f (ntV l3) HLp.out)).mono ?_); rintro e w9 ⟨rfl, hd⟩; have HB9 := Aside0.mk (HB8.out.trans (below_up hd.below HB8.out.size)); clear hd)
      | (go_at_call 17; (refine (awake_calls _).mono ?_); rintro e w10 ⟨rfl, hb⟩; have HB10 := Aside0.mk (HB9.out.trans (below_up hb HB9.out.size)); clear hb))
    go_ret
    exact ⟨rfl, HB10.out⟩
  · have HAB := Aside0.mk (Int.not_lt.1 hab)
    go_enter Try.func5, Try.ntmps5
    go_wp2_with (first
      | (go_at_call 15; clear TK1; (refine (made_calls A0 c0 ops _ HR0.out HFi.out.1 HFi.out.2).mono ?_); rintro e w1 ⟨p, ok, S, rfl, hT, hru, hbn, hb⟩; have HT1 := Aside0.mk hT; have HRu := Aside0.mk hru; have HBn := Aside0.mk hbn; have HB1 := Aside0.mk hb; have HR1 := Aside0.mk (Kd.C_below HR0.out hb); have TK2 := Aside0.mk trivial; clear hT hru hbn hb)
      | (go_at_call 15; clear TK2; (refine (made_calls A0 c0 ops _ HR1.out HFi.out.1 HFi.out.2).mono ?_); rintro e w2 ⟨q, okq, S', rfl, hT, hru, hbn, hb⟩; obtain rfl := runs_det HRu.out hru; have HTt := Aside0.mk (HT1.out.below hb); have HTu := Aside0.mk (hT.lower HB1.out.size); have HB2 := Aside0.mk (HB1.out.trans (below_up hb HB1.out.size)); have HDq := Aside0.mk (show ∀ k, okq k → k < w2.heap.size ∧ ¬ ok k from fun k r => ⟨(hT.bound k r).2, fun o => by have h1 := (HT1.out.bound k o).2; have h2 := (hT.bound k r).1; omega⟩); have HSz := Aside0.mk hb.size; have TK3 := Aside0.mk trivial; clear hT hru hbn hb HT1 HB1 HR1)
      | (go_at_call 16; clear TK3; (refine (due_calls w.heap.size p ok S a _ HTt.out HBn.out.rng (by have := HBn.out.next; omega) HUa.out.1 HUa.out.2).mono ?_); rintro e w3 ⟨ok2, okL1, v1, l1, R1, rfl, hp, hm, hT, hr, hd, hk, hF⟩; have HD1 := Aside0.mk (show DueTo a S l1 (l1.foldl (rearm a) R1) from ⟨R1, hp, hm, rfl⟩); have HB3 := Aside0.mk (HB2.out.trans hF.b); have HT3 := Aside0.mk hT; have HTu3 := Aside0.mk (HTu.out.kept hF.k (fun k r => (HDq.out k r).2)); have HL1 := Aside0.mk (Kd.R_mono (Kd.R_bound hr) (ok' := fun k => w2.heap.size ≤ k ∧ k < w3.heap.size ∧ ¬ ok2 k) (fun k r => ⟨(hd k r.1).2, r.2.2.1, (hd k r.1).1⟩)); have HK2 := Aside0.mk (show ∀ k, okq k → ¬ ok2 k from fun k r o => (hk k o).elim (HDq.out k r).2 (fun s => absurd (HDq.out k r).1 (Nat.not_lt.2 s))); have HS3 := Aside0.mk hF.size; have HF1 := Aside0.mk HTt.out.fine; have HO1 := Aside0.mk HTt.out.once; have TK4 := Aside0.mk trivial; clear hp hm hT hr hd hk hF HTt HTu HB2)
      | (go_at_call 16; clear TK4; (refine (due_calls w.heap.size p ok2 (l1.foldl (rearm a) R1) b _ HT3.out (HBn.out.due HF1.out HD1.out).rng (by have := (HBn.out.due HF1.out HD1.out).next; omega) HUb.out.1 HUb.out.2).mono ?_); rintro e w4 ⟨ok3, okL2, v2, l2, R2, rfl, hp, hm, hT, hr, hd, hk, hF⟩; have HD2 := Aside0.mk (show DueTo b (l1.foldl (rearm a) R1) l2 (l2.foldl (rearm b) R2) from ⟨R2, hp, hm, rfl⟩); have HB4 := Aside0.mk (HB3.out.trans hF.b); have HTu4 := Aside0.mk (HTu3.out.kept hF.k HK2.out); have HL14 := Aside0.mk (Kd.R_kept HL1.out hF.k (fun k r => r.2.2)); have HL2 := Aside0.mk (Kd.R_mono (Kd.R_bound hr) (ok' := fun k => w3.heap.size ≤ k) (fun k r => (hd k r.1).2)); have HS4 := Aside0.mk hF.size; have HF2 := Aside0.mk HT3.out.fine; have HO2 := Aside0.mk HT3.out.once; obtain ⟨A1, c1, rfl⟩ := Kd.R_slice HL14.out; obtain ⟨A2, c2, rfl⟩ := Kd.R_slice HL2.out; have HLL := Aside0.mk (show l1.length ≤ 1024 ∧ l2.length ≤ 1024 from ⟨due_len HF1.out HD1.out, due_len HF2.out HD2.out⟩); have TK5 := Aside0.mk trivial; clear hp hm hT hr hd hk hF HT3 HTu3 HB3 HL1)
      | ((with_reducible refine gate_builtin (b := .append) (xs := #[.tmp 28, .tmp 31]) rfl ?_); (at_builtin; refine Kd.R_append_rows kT (w0 := w) w.heap.size rfl (.tmp 28) (.tmp 31) 37 40 (.agg #[.int .i64 0, .int .i64 0, .int .i64 0, .int .i64 0, .int .i64 0, .int .u64 0, .bool false, .int .u64 0]) 64 rfl Try.underlying37 infoT rfl (by decide) (by omega) (.slice A1 l1.length c1) l1 l2 _ _ _ (fun k => w2.heap.size ≤ k) (fun _ => False) rfl rfl ?aO ?aR (fun _ _ h => h) (fun _ h => h.elim) ?aF HB4.out HB4.out.size ?aL ?_; (case aO => exact Kd.R_mono HL14.out (fun k r => r.1)); (case aR => exact (Kd.R_reads' HL2.out).2.2); (case aF => exact fun k hk => Nat.le_trans HS3.out (Nat.le_trans HS4.out hk)); (case aL => have := HLL.out; omega); intro v5 w5 hrow hb5 hg5 hat; (obtain ⟨Lc, hLc⟩ : ∃ L, l1 ++ l2 = L := ⟨_, rfl⟩); rw [hLc] at hrow; have HLc := Aside0.mk hLc; have HLcl := Aside0.mk (show Lc.length ≤ 1000000 by rw [← hLc, List.length_append]; have := HLL.out; omega); clear hLc; have HB5 := Aside0.mk hb5; have HL5 := Aside0.mk hrow; have HTu5 := Aside0.mk (HTu4.out.kept (Kept.of_grown hg5 (Kept.refl _ (fun k => w2.heap.size ≤ k)) (fun k e => .inl ((HL14.out.1 k e).1))) (fun k r o => absurd (HDq.out k r).1 (Nat.not_lt.2 o))); obtain ⟨A5, c5, rfl⟩ := Kd.R_slice hrow; have TK6 := Aside0.mk trivial; clear hrow hb5 hg5 hat HL14 HTu4 HB4))
      | (go_at_call 19; clear TK6; (refine (plain_calls A5 c5 Lc _ (Kd.R_reads' HL5.out).2.2 HLcl.out).mono ?_); rintro e w6 ⟨v6, rfl, hr, hb⟩; have HB6 := Aside0.mk (HB5.out.trans (below_up hb HB5.out.size)); have HTu6 := Aside0.mk (HTu5.out.below hb); have HL6 := Aside0.mk hr; have HS6 := Aside0.mk (show ∀ k, okq k → k < w5.heap.size from fun k r => (HTu5.out.bound k r).2); have TK7 := Aside0.mk trivial; clear hr hb HB5 HTu5 HL5)
      | (go_at_call 16; clear TK7; (refine (due_calls w.heap.size q okq S b _ HTu6.out HBn.out.rng (by have := HBn.out.next; omega) HUb.out.1 HUb.out.2).mono ?_); rintro e w7 ⟨ok7, okL7, v7, l3, R3, rfl, hp, hm, hT, hr, hd, hk, hF⟩; have HD3 := Aside0.mk (show DueTo b S l3 (l3.foldl (rearm b) R3) from ⟨R3, hp, hm, rfl⟩); have HB7 := Aside0.mk (HB6.out.trans hF.b); have HL67 := Aside0.mk (Kd.R_kept HL6.out hF.k (fun k r o => absurd (HS6.out k o) (Nat.not_lt.2 r.1))); have HL7 := Aside0.mk hr; obtain ⟨A7, c7, rfl⟩ := Kd.R_slice hr; have HLl3 := Aside0.mk (due_len HF1.out HD3.out); have TK8 := Aside0.mk trivial; clear hp hm hT hr hd hk hF HTu6 HB6 HL6)
      | (go_at_call 19; clear TK8; (refine (plain_calls A7 c7 l3 _ (Kd.R_reads' HL7.out).2.2 (by have := HLl3.out; omega)).mono ?_); rintro e w8 ⟨v8, rfl, hr, hb⟩; have HB8 := Aside0.mk (HB7.out.trans (below_up hb HB7.out.size)); have HL68 := Aside0.mk (Kd.R_below HL67.out hb); have HL8 := Aside0.mk hr; have HEq := Aside0.mk (parts_plain HAB.out HF1.out HO1.out HF2.out HO2.out HD1.out HD2.out HD3.out); (rw [HLc.out] at HEq); have HLp := Aside0.mk (show (ntV l3).length ≤ 1000000 from Nat.le_trans (List.length_filter_le _ _) (by have := HLl3.out; omega)); clear hr hb HL67 HB7 HL7; rw [HEq.out] at HL68; obtain ⟨A6, c6, rfl⟩ := Kd.R_slice HL68.out; obtain ⟨A8, c8, rfl⟩ := Kd.R_slice HL8.out)
      | (go_at_call 18; (refine (rotaref14_Same.calls _ A6 c6 (ntV l3) A8 c8 (ntV l3) true _ (Kd.R_reads' HL68.out).2.2 (Kd.R_reads' HL68.out).2.1 (Kd.R_reads' HL8.out).2.2 (Kd.R_reads' HL8.out).2.1 (same_f (ntV l3) HLp.out)).mono ?_); rintro e w9 ⟨rfl, hd⟩; have HB9 := Aside0.mk (HB8.out.trans (below_up hd.below HB8.out.size)); clear hd)
      | (go_at_call 17; (refine (awake_calls _).mono ?_); rintro e w10 ⟨rfl, hb⟩; have HB10 := Aside0.mk (HB9.out.trans (below_up hb HB9.out.size)); clear hb))
    go_ret
    exact ⟨rfl, HB10.out⟩
end Go.Proofs.Ytceopcfmhidjlaa.PTimerPlays

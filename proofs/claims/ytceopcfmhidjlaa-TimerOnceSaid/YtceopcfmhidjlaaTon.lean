/- The law TimerOnce, walked. Conditions: none. -/
import Derived.Test.YtceopcfmhidjlaaTmd
import Derived.Test.YtceopcfmhidjlaaTop
set_option linter.unusedVariables false
set_option linter.unusedSimpArgs false
namespace Go.Proofs.Ytceopcfmhidjlaa.PTimerPlays
open Go.RowKit Go.Proofs.Ytceopcfmhidjlaa.Ef Go.Proofs.Ytceopcfmhidjlaa.Mp Go.Proofs.Ytceopcfmhidjlaa.Hp Go.Proofs.YtceopcfmhidjlaaW.PrintWords Go.Proofs.YtceopcfmhidjlaaW.PrintLast Go.Proofs.YtceopcfmhidjlaaW.PrintMore

theorem at_u64 {w : World} {A : Option Addr} {n : Nat} {xs : List Int} (h : Kd.C (Kd.int .u64) w A n xs) (i : Nat) (h1 : i < n) : ∃ ad : Addr, A = some ad ∧ w.cell? (ad.add i) = some (.int .u64 ((xs[i]?).getD 0)) := by
  obtain ⟨ad, c, e, _, hK, hc0⟩ := Kd.C_get h (0 : Int) (i : Int) (by omega) (by omega)
  rw [Int.toNat_natCast] at hc0 hK
  have hc : ∀ j u, c[j]? = some u → w.cell? (ad.add (i * 1 + j)) = some u := hc0
  have hK' : c = [.int .u64 ((xs[i]?).getD 0)] := hK
  subst hK'
  have := hc 0 _ rfl
  rw [Nat.mul_one, Nat.add_zero] at this
  exact ⟨ad, e, this⟩
theorem at_i64 {w : World} {A : Option Addr} {n : Nat} {xs : List Int} (h : Kd.C (Kd.int .i64) w A n xs) (i : Nat) (h1 : i < n) : ∃ ad : Addr, A = some ad ∧ w.cell? (ad.add i) = some (.int .i64 ((xs[i]?).getD 0)) := by
  obtain ⟨ad, c, e, _, hK, hc0⟩ := Kd.C_get h (0 : Int) (i : Int) (by omega) (by omega)
  rw [Int.toNat_natCast] at hc0 hK
  have hc : ∀ j u, c[j]? = some u → w.cell? (ad.add (i * 1 + j)) = some u := hc0
  have hK' : c = [.int .i64 ((xs[i]?).getD 0)] := hK
  subst hK'
  have := hc 0 _ rfl
  rw [Nat.mul_one, Nat.add_zero] at this
  exact ⟨ad, e, this⟩
theorem info2 : (Try.prog.info? 2).map (fun i => (i.zero, i.size, i.bytes)) = some (some (.int .i64 0), 1, 8) := by kernel_rfl
def fits (ops : List OpT) : Prop := ops.length ≤ 3000000000000 ∧ ∀ o ∈ ops, u64 o.f3 ∧ u64 o.f4
instance (ops : List OpT) : Decidable (fits ops) := inferInstanceAs (Decidable (_ ∧ _))
def fits2 (l : List Int) : Prop := l.length ≤ 20000000000000 ∧ ∀ x ∈ l, u64 x
instance (l : List Int) : Decidable (fits2 l) := inferInstanceAs (Decidable (_ ∧ _))
def rotalaw14_TimerOnce.f (k : Nat) (ops : List OpT) (nows : List Int) : Option Bool := if fits ops ∧ fits2 nows then some true else none
set_option maxHeartbeats 8000000 in
set_option maxRecDepth 100000 in
theorem rotalaw14_TimerOnce.calls (k : Nat) (A0 : Option Addr) (c0 : Nat) (ops : List OpT) (A1 : Option Addr) (c1 : Nat) (nows : List Int) (r : Bool) (w : World) (hr0 : Kd.C k52 w A0 ops.length ops) (hc0 : ops.length ≤ c0) (hr1 : Kd.C (Kd.int .u64) w A1 nows.length nows) (hc1 : nows.length ≤ c1) (h : rotalaw14_TimerOnce.f k ops nows = some r) :
    Calls Try.prog 4 #[.slice A0 ops.length c0, .slice A1 nows.length c1] w fun e w' => e = .returned (.bool r) ∧ Below w.heap.size w w' := by
  have hr : (fits ops ∧ fits2 nows) ∧ r = true := by
    unfold rotalaw14_TimerOnce.f at h
    by_cases hc : fits ops ∧ fits2 nows
    · rw [if_pos hc] at h; exact ⟨hc, (Option.some.inj h).symm⟩
    · rw [if_neg hc] at h; cases h
  obtain ⟨⟨hf, hg⟩, rfl⟩ := hr
  have hu34 := Try.underlying34
  have hu36 := Try.underlying36
  have hu37 := Try.underlying37
  have HR0 := Aside0.mk hr0
  have HR1 := Aside0.mk hr1
  have HFi := Aside0.mk hf
  have HGi := Aside0.mk hg
  have hlo := hf.1
  have hln := hg.1
  clear hr0 hr1 h hf hg
  go_enter Try.func4, Try.ntmps4
  go_wp2_with (go_at_call 15; (refine (made_calls A0 c0 ops _ HR0.out HFi.out.1 HFi.out.2).mono ?_); rintro e w1 ⟨p, ok, S0, rfl, hT, hru, hbn, hb⟩; have HT0 := Aside0.mk hT; have HBn := Aside0.mk hbn; have HB0 := Aside0.mk hb; clear hT hru hbn hb)
  go_loopw [6, 7] (fun v6 v7 wr => ∃ (i : Nat) (oki okT : Nat → Prop) (S : TS) (T : List Int), v7 = .int .i64 (i : Int) ∧ Aside0 (i ≤ nows.length) ∧ Aside0 (Bnd S (ops.length + i) ∧ OInv S T ∧ S.last = S0.last) ∧ Aside0 (TP wr w.heap.size p oki S) ∧ Aside0 (Kd.R (Kd.int .i64) 2 wr w.heap.size okT v6 T) ∧ Aside0 (∀ k, okT k → w.heap.size ≤ k ∧ k < wr.heap.size ∧ ¬ oki k) ∧ Aside0 (Below w.heap.size w wr)) (fun _ v7 _ => nows.length + 1 - (intOf v7).toNat)
  case atStart => exact ⟨0, ok, fun _ => False, S0, [], rfl, ⟨Nat.zero_le _⟩, ⟨HBn.out, OInv.nil _, rfl⟩, HT0, ⟨Kd.R_nil _ _ _ _ _⟩, ⟨fun _ q => q.elim⟩, HB0⟩
  case round =>
    obtain ⟨i, oki, okT, S, T, rfl, HI, HIv, HTi, HRt, HDt, HBr⟩ := hrel
    obtain ⟨At, ct, rfl⟩ := Kd.R_slice HRt.out
    by_cases hlt : (i : Int) < (nows.length : Int)
    · have hin : i < nows.length := by omega
      have hin0 : (0 : Int) ≤ (i : Int) := by omega
      have hin1 : i ≤ 20000000000000 := by omega
      obtain ⟨ad, rfl, hx0⟩ := at_u64 HR1.out i hin
      replace hx0 := (HBr.out.cell (World.block_lt_of_cell? w _ hx0)).trans hx0
      obtain ⟨nw, hnw⟩ : ∃ x, (nows[i]?).getD 0 = x := ⟨_, rfl⟩
      rw [hnw] at hx0
      have hun : u64 nw := by rw [← hnw, List.getElem?_eq_getElem hin]; exact HGi.out.2 _ (List.getElem_mem hin)
      have CD := Aside0.mk (due_calls w.heap.size p oki S nw wr HTi.out HIv.out.1.rng (by have := HIv.out.1.next; omega) hun.1 hun.2)
      have HFn := Aside0.mk HTi.out.fine
      have HPo := Aside0.mk (show ∀ x ∈ S.all, 1 ≤ x.f0 ∧ x.f0 ≤ S.last from fun x hx => ⟨HIv.out.1.pos x hx, HTi.out.idl x hx⟩)
      clear hnw hun
      go_wp2_with (go_at_call 16; (refine CD.out.mono ?_); rintro e w2 ⟨ok2, okL, v2, l, S1, rfl, hp, hm, hT, hr, hd, hk, hF⟩; have HT2 := Aside0.mk hT; have HD2 := Aside0.mk (show DueTo nw S l (l.foldl (rearm nw) S1) from ⟨S1, hp, hm, rfl⟩); have HL2 := Aside0.mk (Kd.R_mono (Kd.R_bound hr) (ok' := fun k => wr.heap.size ≤ k ∧ k < w2.heap.size ∧ ¬ ok2 k) (fun k q => ⟨(hd k q.1).2, q.2.2.1, (hd k q.1).1⟩)); have HB2 := Aside0.mk (HBr.out.trans hF.b); have HRt2 := Aside0.mk (Kd.R_kept HRt.out hF.k (fun k q => (HDt.out k q).2.2)); have HSz := Aside0.mk hF.size; have HDt2 := Aside0.mk (show ∀ k, okT k → w.heap.size ≤ k ∧ k < wr.heap.size ∧ ¬ ok2 k from fun k q => ⟨(HDt.out k q).1, (HDt.out k q).2.1, fun r => (hk k r).elim (HDt.out k q).2.2 (fun r => absurd (HDt.out k q).2.1 (Nat.not_lt.2 r))⟩); clear hp hm hT hr hd hk hF hx0)
      have hb2 := HIv.out.1.due HFn.out HD2.out
      have ho2 := HIv.out.2.1.due HFn.out HPo.out HD2.out
      have hl2 : (l.foldl (rearm nw) S1).last = S0.last := by
        obtain ⟨S9, hp9, _, e9⟩ := HD2.out
        have P := hp9.says HFn.out
        rw [e9, (fold_says nw S9 l).last, P.last, HIv.out.2.2]
      have HQ := Aside0.mk (And.intro hb2 (And.intro ho2 hl2))
      have hll : l.length ≤ 1024 := by
        obtain ⟨S9, hp9, _, e9⟩ := HD2.out
        have h1 := (hp9.says HFn.out).perm.length_eq
        have h2 := HFn.out.len
        rw [List.length_append] at h1
        omega
      generalize l.foldl (rearm nw) S1 = S2 at *
      clear hb2 ho2 hl2 HD2 CD
      obtain ⟨A2, c2, rfl⟩ := Kd.R_slice HL2.out
      obtain ⟨nb, hnb⟩ : ∃ n, wr.heap.size = n := ⟨_, rfl⟩
      obtain ⟨n2, hn2⟩ : ∃ n, w2.heap.size = n := ⟨_, rfl⟩
      rw [hnb] at HDt2 HL2 HSz
      rw [hn2] at HL2 HSz
      have HS2 := Aside0.mk hn2
      clear hnb hn2 HTi HRt HDt HBr
      go_loopw [6, 9, 10] (fun v6 v9 _ wr => ∃ (kk : Nat) (okT : Nat → Prop), v9 = .int .i64 (kk : Int) ∧ Aside0 (kk ≤ l.length) ∧ Aside0 (TP wr w.heap.size p ok2 S2) ∧ Aside0 (Kd.R (Kd.int .i64) 2 wr w.heap.size okT v6 (T ++ ntI (l.take kk))) ∧ Aside0 (∀ k, okT k → w.heap.size ≤ k ∧ k < wr.heap.size ∧ ¬ ok2 k ∧ (k < nb ∨ n2 ≤ k)) ∧ Aside0 (kT.R 40 wr w.heap.size (fun k => nb ≤ k ∧ k < n2 ∧ ¬ ok2 k) (.slice A2 l.length c2) l) ∧ Aside0 (Below w.heap.size w wr) ∧ Aside0 (n2 ≤ wr.heap.size)) (fun _ v9 _ _ => l.length + 1 - (intOf v9).toNat)
      case atStart => exact ⟨0, okT, rfl, ⟨Nat.zero_le _⟩, HT2, ⟨by rw [List.take_zero, show ntI [] = [] from rfl, List.append_nil]; exact HRt2.out⟩, ⟨fun k q => ⟨(HDt2.out k q).1, by have := (HDt2.out k q).2.1; have := HSz.out; have := HS2.out; omega, (HDt2.out k q).2.2, .inl (HDt2.out k q).2.1⟩⟩, HL2, HB2, ⟨Nat.le_of_eq HS2.out.symm⟩⟩
      case round =>
        clear HT2 HRt2 HDt2 HL2 HB2 HS2
        obtain ⟨kk, okU, rfl, HKi, HTk, HRk, HDk, HLk, HBk, HNk⟩ := hrel
        obtain ⟨Ak, ck, rfl⟩ := Kd.R_slice HRk.out
        by_cases hkl : (kk : Int) < (l.length : Int)
        · have hkn : kk < l.length := by omega
          have hkn0 : (0 : Int) ≤ (kk : Int) := by omega
          obtain ⟨gl, cap, eA, -, -, -⟩ := Kd.R_form HLk.out (by omega)
          simp only [Value.slice.injEq] at eA
          obtain ⟨rfl, -, rfl⟩ := eA
          obtain ⟨x, hx⟩ : ∃ x, tn l kk = x := ⟨_, rfl⟩
          obtain ⟨hx0, hx1, -⟩ := at_rowT HLk.out kk hkn
          rw [hx] at hx0 hx1
          have HX := Aside0.mk hx
          clear hx
          by_cases h3 : x.f1 = 3
          · have h3' : (x.f1 == 3) = true := by simpa using h3
            have H3 := Aside0.mk h3
            clear h3
            go_wp2
            go_roundw
            case rel => exact ⟨kk + 1, okU, by go_num, ⟨by omega⟩, HTk, ⟨by rw [ntI_take hkn, HX.out, if_pos H3.out]; exact HRk.out⟩, HDk, HLk, HBk, HNk⟩
            case measure => simp [intOf]; omega
          · have h3' : (x.f1 == 3) = false := by simpa using h3
            have H3 := Aside0.mk h3
            have HNew := Aside0.mk (told_new HQ.out.2.1.nd hkn (by rw [HX.out]; exact h3))
            rw [HX.out] at HNew
            have HLen : Aside0 ((T ++ ntI (l.take kk)).length ≤ 3000000000000) := ⟨by
              have h1 := HQ.out.2.1.len (n := ops.length) (by rw [HQ.out.2.2]; exact HBn.out.last)
              obtain ⟨r, e⟩ := ntI_split hkn (by rw [HX.out]; exact h3)
              rw [e] at h1
              simp only [List.length_append] at h1 ⊢
              omega⟩
            clear h3
            obtain ⟨T', hT'⟩ : ∃ T', T ++ ntI (l.take kk) = T' := ⟨_, rfl⟩
            rw [hT'] at HRk HNew HLen ⊢
            have HT' := Aside0.mk hT'
            clear hT'
            go_wp2
            clear hx0 hx1
            go_loopw [10] (fun v10 wq => ∃ j : Nat, v10 = .int .i64 (j : Int) ∧ Aside0 (j ≤ T'.length) ∧ Aside0 (Below wr.heap.size wr wq)) (fun v10 _ => T'.length + 1 - (intOf v10).toNat)
            case atStart => exact ⟨0, rfl, ⟨Nat.zero_le _⟩, ⟨Below.refl _ _⟩⟩
            case round =>
              obtain ⟨j, rfl, HJ, HBq⟩ := hrel
              have HLq := Aside0.mk (Kd.R_below HLk.out HBq.out)
              have HRq := Aside0.mk (Kd.R_below HRk.out HBq.out)
              obtain ⟨hx0, hx1, -⟩ := at_rowT HLq.out kk hkn
              rw [HX.out] at hx0 hx1
              by_cases hjl : (j : Int) < (T'.length : Int)
              · have hjn : j < T'.length := by omega
                have hjn0 : (0 : Int) ≤ (j : Int) := by omega
                have hj3 : j ≤ 3000000000000 := by have := HLen.out; omega
                obtain ⟨at_, rfl, hy0⟩ := at_i64 (Kd.R_reads' HRq.out).2.2 j hjn
                obtain ⟨y, hy⟩ : ∃ y, (T'[j]?).getD 0 = y := ⟨_, rfl⟩
                rw [hy] at hy0
                have hne : (y == x.f0) = false := by
                  have : y ∈ T' := by rw [← hy, List.getElem?_eq_getElem hjn]; exact List.getElem_mem hjn
                  simp only [beq_eq_false_iff_ne, ne_eq]
                  exact fun e => HNew.out (e ▸ this)
                clear hy
                go_wp2
                go_quiet (fail)
                go_wp2
                go_roundw
                case rel => exact ⟨j + 1, by go_num, ⟨by omega⟩, ⟨pw_below_drewN HBq.out _⟩⟩
                case measure => simp [intOf]; omega
              · have HTq := Aside0.mk (HTk.out.below HBq.out)
                have HBw := Aside0.mk (HBk.out.trans (below_up HBq.out HBk.out.size))
                have HNq := Aside0.mk (Nat.le_trans HNk.out HBq.out.size)
                have HSq := Aside0.mk HBq.out.size
                obtain ⟨nq, hnq⟩ : ∃ n, wr.heap.size = n := ⟨_, rfl⟩
                have HNw := Aside0.mk hnq
                clear hnq
                have HRa := Aside0.mk (Kd.R_mono HRq.out (ok' := fun k => okU k ∨ nq ≤ k) (fun k q => .inl q))
                go_wp2_with ((with_reducible refine gate_builtin (b := .append) (xs := #[.tmp 55, .tmp 61]) rfl ?_); (at_builtin; refine Kd.R_append (Kd.int .i64) (w0 := w) (W := _) w.heap.size rfl (.tmp 55) (.tmp 61) 36 2 (.int .i64 0) 8 rfl Try.underlying36 info2 rfl (by decide) (by omega) (.slice Ak T'.length ck) T' x.f0 [.int .i64 x.f0] (fun k => okU k ∨ nq ≤ k) (fun _ => False) rfl rfl ?aP (fun _ hk => hk.elim) ?aF HRa.out HBw.out HBw.out.size ?aL ?_; (case aP => exact rfl); (case aF => exact fun k hk => .inr (by rw [← HNw.out]; exact hk)); (case aL => have := HLen.out; omega); intro v8 w9 hrow hb9 hg9 hat; have HK9 := Aside0.mk (show Kept wr w9 okU from Kept.of_grown hg9 (Kept.refl _ _) (fun k e => .inl (HRq.out.1 k e))); have HR9 := Aside0.mk (Kd.R_mono (Kd.R_bound hrow) (ok' := fun k => (okU k ∨ nq ≤ k) ∧ k < w9.heap.size) (fun k q => ⟨q.1, q.2.2.1⟩)); have HB9 := Aside0.mk hb9; clear hrow hb9 hg9 hat hx0 hx1))
                go_roundw
                case rel => exact ⟨kk + 1, fun k => (okU k ∨ nq ≤ k) ∧ k < w9.heap.size, by go_num, ⟨by omega⟩, ⟨HTq.out.kept HK9.out (fun k q r => (HDk.out k r).2.2.1 q)⟩, ⟨by rw [ntI_take hkn, HX.out, if_neg H3.out, ← List.append_assoc, HT'.out]; exact HR9.out⟩, ⟨fun k q => q.1.elim (fun r => ⟨(HDk.out k r).1, q.2, (HDk.out k r).2.2.1, (HDk.out k r).2.2.2⟩) (fun r => ⟨by have := HBw.out.size; have := HNw.out; omega, q.2, fun o => by have := (HTq.out.bound k o).2; have := HNw.out; omega, .inr (by have := HNq.out; have := HNw.out; omega)⟩)⟩, ⟨Kd.R_kept HLq.out HK9.out (fun k q r => (HDk.out k r).2.2.2.elim (fun a => by have := q.1; omega) (fun a => by have := q.2.1; omega))⟩, HB9, ⟨Nat.le_trans HNq.out HK9.out.1⟩⟩
                case measure => simp [intOf]; omega
        · have hkk : kk = l.length := by have := HKi.out; omega
          have HRe : Aside0 (Kd.R (Kd.int .i64) 2 wr w.heap.size okU (.slice Ak (T ++ ntI (l.take kk)).length ck) (T ++ ntI l)) := ⟨by have h := HRk.out; rw [hkk, List.take_length] at h; rw [hkk, List.take_length]; exact h⟩
          go_wp2
          exact ⟨⟨i + 1, ok2, okU, S2, T ++ ntI l, by simp, ⟨by omega⟩, ⟨HQ.out⟩, HTk, HRe, ⟨fun k q => ⟨(HDk.out k q).1, (HDk.out k q).2.1, (HDk.out k q).2.2.1⟩⟩, HBk⟩, by simp [intOf]; omega⟩
    · go_wp2_with (go_at_call 17; (refine (awake_calls _).mono ?_); rintro e w5 ⟨rfl, hb⟩; have HB5 := Aside0.mk (HBr.out.trans (below_up hb HBr.out.size)); clear hb)
      go_ret
      exact ⟨rfl, HB5.out⟩
end Go.Proofs.Ytceopcfmhidjlaa.PTimerPlays

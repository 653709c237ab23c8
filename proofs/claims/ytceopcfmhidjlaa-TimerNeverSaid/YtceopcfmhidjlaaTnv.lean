/- The law TimerNever, walked. Conditions: the theorem's own. -/
import Derived.Test.YtceopcfmhidjlaaTmd
import Derived.Test.YtceopcfmhidjlaaTnx
import Derived.BigQuiet
set_option linter.unusedVariables false
set_option linter.unusedSimpArgs false
namespace Go.Proofs.Ytceopcfmhidjlaa.PTimerPlays
open Go.RowKit Go.Proofs.Ytceopcfmhidjlaa.Ef Go.Proofs.Ytceopcfmhidjlaa.Mp Go.Proofs.Ytceopcfmhidjlaa.Hp Go.Proofs.YtceopcfmhidjlaaW.PrintWords Go.Proofs.YtceopcfmhidjlaaW.PrintLast Go.Proofs.YtceopcfmhidjlaaW.PrintMore

theorem at_tmC {w : World} {A : Option Addr} {n : Nat} {xs : List Tm} (h : Kd.C kT w A n xs) (i : Nat) (h1 : i < n) : ∃ ad : Addr, A = some ad ∧ w.cell? ⟨(ad.add (i * 8)).block, (ad.add (i * 8)).off + 4, none⟩ = some (.int .i64 (tn xs i).f3) ∧ w.cell? ⟨(ad.add (i * 8)).block, (ad.add (i * 8)).off + 5, none⟩ = some (.int .u64 (tn xs i).f4) ∧ w.cell? ⟨(ad.add (i * 8)).block, (ad.add (i * 8)).off + 6, none⟩ = some (.bool (tn xs i).f5) := by
  obtain ⟨ad, c, e, _, hK, hc0⟩ := Kd.C_get h (default : Tm) (i : Int) (by omega) (by omega)
  rw [Int.toNat_natCast] at hc0 hK
  have hc : ∀ j u, c[j]? = some u → w.cell? (ad.add (i * 8 + j)) = some u := hc0
  obtain rfl := k40_open hK
  exact ⟨ad, e, by rw [← add_field _ _ 4 (by omega)]; exact hc 4 _ rfl, by rw [← add_field _ _ 5 (by omega)]; exact hc 5 _ rfl, by rw [← add_field _ _ 6 (by omega)]; exact hc 6 _ rfl⟩
def fitsV (ops : List OpT) : Prop := ops.length ≤ 3000000000000 ∧ ∀ o ∈ ops, u64 o.f3 ∧ u64 o.f4
instance (ops : List OpT) : Decidable (fitsV ops) := inferInstanceAs (Decidable (_ ∧ _))
def rotalaw14_TimerNever.f (k : Nat) (ops : List OpT) (now : Int) : Option Bool := if fitsV ops ∧ u64 now then some true else none
set_option maxHeartbeats 8000000 in
set_option maxRecDepth 100000 in
theorem rotalaw14_TimerNever.calls (k : Nat) (A0 : Option Addr) (c0 : Nat) (ops : List OpT) (now : Int) (r : Bool) (w : World) (hr0 : Kd.C k52 w A0 ops.length ops) (hc0 : ops.length ≤ c0) (h : rotalaw14_TimerNever.f k ops now = some r) :
    Calls Try.prog 9 #[.slice A0 ops.length c0, .int .u64 now] w fun e w' => e = .returned (.bool r) ∧ Below w.heap.size w w' := by
  have hr : (fitsV ops ∧ u64 now) ∧ r = true := by
    unfold rotalaw14_TimerNever.f at h
    by_cases hc : fitsV ops ∧ u64 now
    · rw [if_pos hc] at h; exact ⟨hc, (Option.some.inj h).symm⟩
    · rw [if_neg hc] at h; cases h
  obtain ⟨⟨hf, ha⟩, rfl⟩ := hr
  have HR0 := Aside0.mk hr0
  have HFi := Aside0.mk hf
  have hlo := hf.1
  have HU := Aside0.mk ha
  clear hr0 h hf ha
  go_enter Try.func9, Try.ntmps9
  go_wp2_with (first
    | (go_at_call 15; (refine (made_calls A0 c0 ops _ HR0.out HFi.out.1 HFi.out.2).mono ?_); rintro e w1 ⟨p, ok, S, rfl, hT, hru, hbn, hb⟩; have HT1 := Aside0.mk hT; have HBn := Aside0.mk hbn; have HB1 := Aside0.mk hb; clear hT hru hbn hb)
    | (go_at_call 16; (refine (due_calls w.heap.size p ok S now _ HT1.out HBn.out.rng (by have := HBn.out.next; omega) HU.out.1 HU.out.2).mono ?_); rintro e w3 ⟨ok2, okL, v1, l, R1, rfl, hp, hm, hT, hr, hd, hk, hF⟩; (obtain ⟨S', hS'⟩ : ∃ S', l.foldl (rearm now) R1 = S' := ⟨_, rfl⟩); rw [hS'] at hT; have HD := Aside0.mk (show DueTo now S l S' from ⟨R1, hp, hm, hS'.symm⟩); have HF1 := Aside0.mk HT1.out.fine; have HO1 := Aside0.mk HT1.out.once; have HB3 := Aside0.mk (HB1.out.trans hF.b); have HT3 := Aside0.mk hT; have HM := Aside0.mk (due_hp HF1.out HT1.out.nd HBn.out.rng HD.out hT.fine); have HBn2 := Aside0.mk (HBn.out.due HF1.out HD.out); have HL := Aside0.mk hr; (obtain ⟨A, c, rfl⟩ := Kd.R_slice hr); have hll := due_len HF1.out HD.out; have HSo := Aside0.mk (due_sorted HF1.out HO1.out HD.out); have HTo := Aside0.mk (due_told HF1.out HD.out); clear hp hm hT hr hd hk hF hS' HT1))
  go_loopw [7] (fun v7 wr => ∃ i : Nat, v7 = .int .i64 (i : Int) ∧ Aside0 (i ≤ l.length) ∧ Aside0 (Below w3.heap.size w3 wr)) (fun v7 _ => l.length + 1 - (intOf v7).toNat)
  case atStart => exact ⟨0, rfl, ⟨Nat.zero_le _⟩, ⟨Below.refl _ _⟩⟩
  case round =>
    obtain ⟨i, rfl, HI, HBr⟩ := hrel
    by_cases hlt : (i : Int) < (l.length : Int)
    · have hin : i < l.length := by omega
      have hin0 : (0 : Int) ≤ (i : Int) := by omega
      have HC := Aside0.mk (Kd.R_reads' (Kd.R_below HL.out HBr.out)).2.2
      obtain ⟨ad, rfl, -, hx4, hx5⟩ := at_tmC HC.out i hin
      obtain ⟨hf5, hf4⟩ := HTo.out i hin
      rw [hf5] at hx5
      obtain ⟨x4, hxe⟩ : ∃ x4, (tn l i).f4 = x4 := ⟨_, rfl⟩
      rw [hxe] at hx4 hf4
      have hng : decide (now < x4) = false := decide_eq_false (by omega)
      by_cases hi0 : i = 0
      · subst hi0
        clear hf5 hf4 hxe
        replace hx4 : wr.cell? ⟨ad.block, ad.off + 5, none⟩ = some (.int .u64 x4) := by simpa [Addr.add] using hx4
        replace hx5 : wr.cell? ⟨ad.block, ad.off + 6, none⟩ = some (.bool false) := by simpa [Addr.add] using hx5
        go_wp2
        go_quiet (fail)
        all_goals
          go_wp2
          go_roundw
          case rel => exact ⟨1, by go_num, ⟨hin⟩, ⟨pw_below_drewN HBr.out _⟩⟩
          case measure => simp [intOf]
      · obtain ⟨j, rfl⟩ : ∃ j, i = j + 1 := ⟨i - 1, by omega⟩
        obtain ⟨ad', hae, -, hy4, -⟩ := at_tmC HC.out j (by omega)
        obtain rfl := Option.some.inj hae
        have hso := HSo.out j hin
        obtain ⟨y4, hye⟩ : ∃ y4, (tn l j).f4 = y4 := ⟨_, rfl⟩
        rw [hye] at hy4 hso
        rw [hxe] at hso
        have hnl : decide (x4 < y4) = false := decide_eq_false (by omega)
        clear hf5 hf4 hxe hae hye hso
        have g0 : (0 : Int) ≤ (j : Int) + 1 := by omega
        have g1 : (j : Int) + 1 < (l.length : Int) := by omega
        have g2 : (0 : Int) ≤ (j : Int) := by omega
        have g3 : (j : Int) < (l.length : Int) := by omega
        have g4 : decide ((0 : Int) < (j : Int) + 1) = true := decide_eq_true (by omega)
        have g5 : wrap64 ((j : Int) + 1 - 1) = (j : Int) := by unfold wrap64; omega
        go_wp2
        go_quiet (fail)
        all_goals
          go_wp2
          go_roundw
          case rel => exact ⟨j + 1 + 1, by go_num, ⟨hin⟩, ⟨pw_below_drewN HBr.out _⟩⟩
          case measure => simp [intOf]; omega
    · clear HSo HTo HI
      have HTr := Aside0.mk (HT3.out.below HBr.out)
      have HB4 := Aside0.mk (below_step HB3.out HBr.out)
      have HFr := Aside0.mk HTr.out.fine
      have HNr := Aside0.mk HTr.out.nd
      clear HT3 HL
      go_wp2_with (go_at_call 21; (refine (state_calls w.heap.size p ok2 S' _ HTr.out).mono ?_); rintro e w5 ⟨v5, d, rfl, hpm, -, hr, hb⟩; (obtain ⟨l5, hl5⟩ : ∃ l5, d.map (·.val) ++ S'.nv = l5 := ⟨_, rfl⟩); have HSh := Aside0.mk (shown_left HFr.out HNr.out HM.out hpm); (rw [hl5] at hr HSh); (obtain ⟨A5, c5, rfl⟩ := Kd.R_slice hr); have hll5 : l5.length ≤ 1024 := (hl5 ▸ shown_len HFr.out hpm); have HL5 := Aside0.mk hr; have HT5w := Aside0.mk (HTr.out.below hb); have HB5w := Aside0.mk (below_step HB4.out hb); clear hpm hr hb hl5 hlt)
      go_loopw [10] (fun v10 wr => ∃ i : Nat, v10 = .int .i64 (i : Int) ∧ Aside0 (i ≤ l5.length) ∧ Aside0 (Below w5.heap.size w5 wr)) (fun v10 _ => l5.length + 1 - (intOf v10).toNat)
      case atStart => exact ⟨0, rfl, ⟨Nat.zero_le _⟩, ⟨Below.refl _ _⟩⟩
      case round =>
        obtain ⟨i, rfl, HI, HBr⟩ := hrel
        by_cases hlt : (i : Int) < (l5.length : Int)
        · have hin : i < l5.length := by omega
          have hin0 : (0 : Int) ≤ (i : Int) := by omega
          obtain ⟨ad, rfl, -, hx4, hx5⟩ := at_tmC (Kd.R_reads' (Kd.R_below HL5.out HBr.out)).2.2 i hin
          rcases HSh.out i hin with hf5 | ⟨hf5, hf4⟩
          · rw [hf5] at hx5
            clear hf5 hx4
            go_wp2
            go_roundw
            case rel => exact ⟨i + 1, by go_num, ⟨hin⟩, HBr⟩
            case measure => simp [intOf]; omega
          · rw [hf5] at hx5
            obtain ⟨x4, hxe⟩ : ∃ x4, (tn l5 i).f4 = x4 := ⟨_, rfl⟩
            rw [hxe] at hx4 hf4
            have hnl : decide (x4 ≤ now) = false := decide_eq_false (by omega)
            clear hf5 hf4 hxe
            go_wp2
            go_roundw
            case rel => exact ⟨i + 1, by go_num, ⟨hin⟩, HBr⟩
            case measure => simp [intOf]; omega
        · have HT5 := Aside0.mk (HT5w.out.below HBr.out)
          have HB5 := Aside0.mk (below_step HB5w.out HBr.out)
          clear HSh HI HL5 HT5w HB5w
          by_cases hhp : S'.hp = []
          · have HN := Aside0.mk hhp
            clear hhp
            go_wp2_with (first
              | (go_at_call 20; (refine (next_none w.heap.size p ok2 S' _ HT5.out HN.out).mono ?_); rintro e w6 ⟨rfl, hb⟩; have HT6 := Aside0.mk (HT5.out.below hb); have HB6 := Aside0.mk (below_step HB5.out hb); clear hb)
              | (go_at_call 16; (refine (due_calls w.heap.size p ok2 S' now _ HT6.out HBn2.out.rng (by have := HBn2.out.next; omega) HU.out.1 HU.out.2).mono ?_); rintro e w7 ⟨ok7, okL7, v7, l7, R7, rfl, hp, hm, hT, hr, hd, hk, hF⟩; obtain ⟨rfl, rfl⟩ := due_again HM.out hp; obtain ⟨A7, c7, rfl⟩ := row_none hr; have HB7 := Aside0.mk (HB6.out.trans hF.b); clear hp hm hT hr hd hk hF)
              | (go_at_call 17; (refine (awake_calls _).mono ?_); rintro e w8 ⟨rfl, hb⟩; have HB8 := Aside0.mk (below_step HB7.out hb); clear hb))
            go_ret
            exact ⟨rfl, HB8.out⟩
          · obtain ⟨x, hx⟩ := least_of hhp
            have HX := Aside0.mk hx
            have hnw : decide (now < x.when) = true := decide_eq_true (HM.out x hx.1)
            clear hhp hx
            go_wp2_with (first
              | (go_at_call 20; (refine (next_some w.heap.size p ok2 S' x _ HT5.out HX.out).mono ?_); rintro e w6 ⟨rfl, hb⟩; have HT6 := Aside0.mk (HT5.out.below hb); have HB6 := Aside0.mk (below_step HB5.out hb); clear hb)
              | (go_at_call 16; (refine (due_calls w.heap.size p ok2 S' now _ HT6.out HBn2.out.rng (by have := HBn2.out.next; omega) HU.out.1 HU.out.2).mono ?_); rintro e w7 ⟨ok7, okL7, v7, l7, R7, rfl, hp, hm, hT, hr, hd, hk, hF⟩; obtain ⟨rfl, rfl⟩ := due_again HM.out hp; obtain ⟨A7, c7, rfl⟩ := row_none hr; have HB7 := Aside0.mk (HB6.out.trans hF.b); clear hp hm hT hr hd hk hF)
              | (go_at_call 17; (refine (awake_calls _).mono ?_); rintro e w8 ⟨rfl, hb⟩; have HB8 := Aside0.mk (below_step HB7.out hb); clear hb))
            go_ret
            exact ⟨rfl, HB8.out⟩
end Go.Proofs.Ytceopcfmhidjlaa.PTimerPlays

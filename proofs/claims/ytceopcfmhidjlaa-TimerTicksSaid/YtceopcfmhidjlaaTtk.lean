/- The law TimerTicks, walked. Conditions: none. -/
import Derived.Test.YtceopcfmhidjlaaTtp
set_option linter.unusedVariables false
set_option linter.unusedSimpArgs false
namespace Go.Proofs.Ytceopcfmhidjlaa.PTimerPlays
open Go.RowKit Go.Proofs.Ytceopcfmhidjlaa.Ef Go.Proofs.Ytceopcfmhidjlaa.Mp Go.Proofs.Ytceopcfmhidjlaa.Hp Go.Proofs.YtceopcfmhidjlaaW.PrintWords Go.Proofs.YtceopcfmhidjlaaW.PrintLast Go.Proofs.YtceopcfmhidjlaaW.PrintMore

def u8 (x : Int) : Prop := 0 ≤ x ∧ x < 256
instance (x : Int) : Decidable (u8 x) := inferInstanceAs (Decidable (_ ∧ _))
def rotalaw14_TimerTicks.f (k : Nat) (ch now p long : Int) : Option Bool := if u64 now ∧ u8 p ∧ u8 long then some true else none
set_option maxHeartbeats 8000000 in
set_option maxRecDepth 100000 in
theorem rotalaw14_TimerTicks.calls (k : Nat) (ch now p long : Int) (r : Bool) (w : World) (h : rotalaw14_TimerTicks.f k ch now p long = some r) :
    Calls Try.prog 6 #[.agg #[.int .i64 ch, .int .u64 now, .int .u8 p, .int .u8 long]] w fun e w' => e = .returned (.bool r) ∧ Below w.heap.size w w' := by
  have hr : (u64 now ∧ u8 p ∧ u8 long) ∧ r = true := by
    unfold rotalaw14_TimerTicks.f at h
    by_cases hc : u64 now ∧ u8 p ∧ u8 long
    · rw [if_pos hc] at h; exact ⟨hc, (Option.some.inj h).symm⟩
    · rw [if_neg hc] at h; cases h
  obtain ⟨⟨hn, hp, hl⟩, rfl⟩ := hr
  have hn0 := hn.1
  have hn1 := hn.2
  have hp0 := hp.1
  have hp1 := hp.2
  have hl0 := hl.1
  have hl1 := hl.2
  clear h hn hp hl
  have hu37 := Try.underlying37
  by_cases hz : p = 0
  · subst hz
    go_enter Try.func6, Try.ntmps6
    go_wp2_with (((with_reducible refine gate_dst (N := 1) rfl ?_); refine box_event ?hg (N := 1) ?hd (cs := #[.int .i64 ch, .int .u64 now, .int .u8 0, .int .u8 long]) (t := 47) ?hr ?_; (case hd => rfl); (case hg => rfl); (case hr => first | (go_simp; done) | (go_simp; rfl)); intro g1 hg1 w1 hbox hb; have HB1 := Aside0.mk hb; have y0 : w1.cell? ⟨g1, 0, none⟩ = some (.int .i64 ch) := (blk_cell hbox 0).trans rfl; have y1 : w1.cell? ⟨g1, 1, none⟩ = some (.int .u64 now) := (blk_cell hbox 1).trans rfl; have y2 : w1.cell? ⟨g1, 2, none⟩ = some (.int .u8 0) := (blk_cell hbox 2).trans rfl; have y3 : w1.cell? ⟨g1, 3, none⟩ = some (.int .u8 long) := (blk_cell hbox 3).trans rfl; clear hb hbox hg1))
    go_quiet (fail)
    rename_i nq
    have HB2 := Aside0.mk (show Below w.heap.size w (w1.drewN nq) from pw_below_drewN HB1.out nq)
    clear y0 y1 y2 y3 HB1
    generalize w1.drewN nq = w2 at *
    go_wp2_with (first
      | (go_at_call 10; (refine (new_tp _).mono ?_); rintro e w3 ⟨pt, ok, rfl, hT, hb⟩; have HT := Aside0.mk (hT.lower HB2.out.size); have HB := Aside0.mk (HB2.out.trans (below_up hb HB2.out.size)); clear hT hb HB2)
      | (go_at_call 12; (refine (every_zero _ _ _ TS.nil ch now _ HT.out).mono ?_); rintro e w4 ⟨rfl, rfl⟩)
      | (go_at_call 17; (refine (awake_calls _).mono ?_); rintro e w5 ⟨rfl, hb⟩; have HB5 := Aside0.mk (HB.out.trans (below_up hb HB.out.size)); clear hb))
    go_ret
    exact ⟨rfl, HB5.out⟩
  · have hpp : 0 < p := by omega
    have hz' : (p == 0) = false := by simpa using hz
    have C1 := Aside0.mk (fun base pt ok w H => every_ok base pt ok TS.nil ch now p w H hz (by decide) (by decide) (by decide) hn0 hn1 hp0 (by omega))
    rw [show TS.nil.last + 1 = 1 from rfl] at C1
    have HS := Aside0.mk (Tick.start (ch := ch) hn0 hpp hp1)
    go_enter Try.func6, Try.ntmps6
    go_wp2_with (((with_reducible refine gate_dst (N := 1) rfl ?_); refine box_event ?hg (N := 1) ?hd (cs := #[.int .i64 ch, .int .u64 now, .int .u8 p, .int .u8 long]) (t := 47) ?hr ?_; (case hd => rfl); (case hg => rfl); (case hr => first | (go_simp; done) | (go_simp; rfl)); intro g1 hg1 w1 hbox hb; have HB1 := Aside0.mk hb; have y0 : w1.cell? ⟨g1, 0, none⟩ = some (.int .i64 ch) := (blk_cell hbox 0).trans rfl; have y1 : w1.cell? ⟨g1, 1, none⟩ = some (.int .u64 now) := (blk_cell hbox 1).trans rfl; have y2 : w1.cell? ⟨g1, 2, none⟩ = some (.int .u8 p) := (blk_cell hbox 2).trans rfl; have y3 : w1.cell? ⟨g1, 3, none⟩ = some (.int .u8 long) := (blk_cell hbox 3).trans rfl; clear hb hbox hg1))
    go_quiet (fail)
    rename_i nq
    have HB2 := Aside0.mk (show Below w.heap.size w (w1.drewN nq) from pw_below_drewN HB1.out nq)
    clear y0 y1 y2 y3 HB1
    generalize w1.drewN nq = w2 at *
    go_wp2_with (first
      | (go_at_call 10; (refine (new_tp _).mono ?_); rintro e w3 ⟨pt, ok, rfl, hT, hb⟩; have HT := Aside0.mk (hT.lower HB2.out.size); have HB := Aside0.mk (HB2.out.trans (below_up hb HB2.out.size)); clear hT hb HB2)
      | (go_at_call 12; (refine (C1.out _ _ _ _ HT.out).mono ?_); rintro e w4 ⟨ok4, rfl, h1, h2, h3⟩; have HT4 := Aside0.mk h1; have HB4 := Aside0.mk (HB.out.trans h3.b); clear h1 h2 h3 HT HB))
    go_loopw [10, 11, 12] (fun v10 _ _ wr => ∃ (i : Nat) (m : Int) (oki : Nat → Prop) (S : TS), v10 = .int .u64 (i : Int) ∧ Aside0 ((i : Int) ≤ long + 1 ∧ Tick now p ch (i : Int) m S) ∧ Aside0 (TP wr w.heap.size pt oki S) ∧ Aside0 (Below w.heap.size w wr)) (fun v10 _ _ _ => long.toNat + 2 - (intOf v10).toNat)
    case atStart => exact ⟨0, p, ok4, _, rfl, ⟨by omega, HS.out⟩, HT4, HB4⟩
    case round =>
      clear HT4 HB4 HS
      obtain ⟨i, m, oki, S, rfl, HIT, HTP, HBr⟩ := hrel
      have HTk := Aside0.mk HIT.out.2
      have hi0 : (0 : Int) ≤ (i : Int) := by omega
      by_cases hlt : (i : Int) ≤ long
      · by_cases hov : now + (i : Int) < 18446744073709551616
        · have hw1 : IntKind.u64.wrap (now + (i : Int)) = now + (i : Int) := by rw [IntKind.wrap_u64]; omega
          have hc1 : ¬ (now + (i : Int) < now) := by omega
          have hc2 : IntKind.u64.wrap ((i : Int) + 1) = (i : Int) + 1 := by rw [IntKind.wrap_u64]; omega
          have hnx := HTk.out.next
          have CD := Aside0.mk (due_calls w.heap.size pt oki S (now + (i : Int)) wr HTP.out (HTk.out.rng hi0) (by omega) (by omega) hov)
          by_cases him : (i : Int) = m
          · subst him
            have hip : (0 : Int) < (i : Int) := by have := HTk.out.mp; omega
            have hmod : (i : Int) % p = 0 := HTk.out.hd
            clear hnx
            go_wp2_with (go_at_call 16; (refine CD.out.mono ?_); rintro e w5 ⟨ok5, okL, v5, l, S1, rfl, hp, hm, hT, hr, hd, hk, hF⟩; obtain ⟨rfl, htk⟩ := HTk.out.told hov hp hm; obtain ⟨g5, cap, rfl⟩ := row_one hr; have HT5 := Aside0.mk hT; have HB5 := Aside0.mk (HBr.out.trans hF.b); have HK5 := Aside0.mk htk; obtain ⟨hx0, hx1, hx2, hx3, hx4, hx5, hx6, hx7⟩ := at_rowT hr 0 (by omega); (replace hx0 : w5.cell? ⟨g5, 0, none⟩ = some (.int .i64 1) := hx0); (replace hx4 : w5.cell? ⟨g5, 4, none⟩ = some (.int .i64 ch) := hx4); (replace hx5 : w5.cell? ⟨g5, 5, none⟩ = some (.int .u64 (now + (i : Int))) := hx5); clear hp hm hT hr hd hk hF htk hx1 hx2 hx3 hx6 hx7)
            all_goals exact ⟨⟨i + 1, _, ok5, _, by simp, ⟨by omega, HK5.out⟩, HT5, HB5⟩, by simp [intOf]; omega⟩
          · have hlm : (i : Int) < m := by have := HTk.out.hi; omega
            have hno : (i : Int) % p ≠ 0 ∨ (i : Int) = 0 := by
              rcases HTk.out.lo with q | ⟨q, _⟩
              · exact .inl (tick_not hpp HTk.out.hd q hlm)
              · exact .inr q
            clear hnx him
            go_wp2_with (go_at_call 16; (refine CD.out.mono ?_); rintro e w5 ⟨ok5, okL, v5, l, S1, rfl, hp, hm, hT, hr, hd, hk, hF⟩; obtain ⟨rfl, rfl⟩ := HTk.out.quiet hlm hp; obtain ⟨A5, cap, rfl⟩ := row_none hr; have HT5 := Aside0.mk hT; have HB5 := Aside0.mk (HBr.out.trans hF.b); clear hp hm hT hr hd hk hF)
            all_goals exact ⟨⟨i + 1, m, ok5, _, by simp, ⟨by omega, HTk.out.skip hlm hi0⟩, HT5, HB5⟩, by simp [intOf]; omega⟩
        · have hw1 : IntKind.u64.wrap (now + (i : Int)) = now + (i : Int) - 18446744073709551616 := by rw [IntKind.wrap_u64]; omega
          have hc1 : now + (i : Int) - 18446744073709551616 < now := by omega
          obtain ⟨x, hx, hx1, hxk⟩ := HTk.out.one
          have hxm : x ∈ S.all := by rw [hx]; exact List.mem_cons_self
          have C5 := Aside0.mk (fun w2 H => stop_ok w.heap.size pt oki S x w2 H hxm hxk)
          have hno : ∀ y ∈ (S.rm 1).all, y.f0 ≠ 1 := fun y hy => by rw [rm_all] at hy; simpa using (List.mem_filter.1 hy).2
          have hhp : (S.rm 1).hp = [] := by
            have h5 := rm_all S 1
            rw [hx] at h5
            simp only [hx1, List.filter_cons, List.filter_nil, bne_self_eq_false, Bool.false_eq_true, if_false] at h5
            unfold TS.all at h5
            exact List.map_eq_nil_iff.1 (List.append_eq_nil_iff.1 h5).1
          rw [hx1] at C5
          have C6 := Aside0.mk (fun ok2 w2 H => stop_none w.heap.size pt ok2 (S.rm 1) 1 w2 H hno)
          have C7 := Aside0.mk (fun ok2 w2 H => next_none w.heap.size pt ok2 (S.rm 1) w2 H hhp)
          have TK1 := Aside0.mk trivial
          clear hx hx1 hxk hxm hno hhp
          go_wp2_with (first
            | (go_at_call 14; clear TK1; (refine (C5.out _ HTP.out).mono ?_); rintro e w6 ⟨ok2, rfl, h1, h2, h3⟩; have HP6 := Aside0.mk h1; have HB6 := Aside0.mk (HBr.out.trans h3.b); have TK4 := Aside0.mk trivial; clear h1 h2 h3 HTP HBr)
            | (go_at_call 14; clear TK4; (refine (C6.out _ _ HP6.out).mono ?_); rintro e w7 ⟨rfl, hb⟩; have HP7 := Aside0.mk (HP6.out.below hb); have HB7 := Aside0.mk (HB6.out.trans (below_up hb HP6.out.le)); clear hb HP6 HB6)
            | (go_at_call 20; (refine (C7.out _ _ HP7.out).mono ?_); rintro e w8 ⟨rfl, hb⟩; have HB8 := Aside0.mk (HB7.out.trans (below_up hb HP7.out.le)); clear hb HP7 HB7))
          go_ret
          exact ⟨rfl, HB8.out⟩
      · obtain ⟨x, hx, hx1, hxk⟩ := HTk.out.one
        have hxm : x ∈ S.all := by rw [hx]; exact List.mem_cons_self
        have C5 := Aside0.mk (fun w2 H => stop_ok w.heap.size pt oki S x w2 H hxm hxk)
        have hno : ∀ y ∈ (S.rm 1).all, y.f0 ≠ 1 := fun y hy => by rw [rm_all] at hy; simpa using (List.mem_filter.1 hy).2
        have hhp : (S.rm 1).hp = [] := by
          have h5 := rm_all S 1
          rw [hx] at h5
          simp only [hx1, List.filter_cons, List.filter_nil, bne_self_eq_false, Bool.false_eq_true, if_false] at h5
          unfold TS.all at h5
          exact List.map_eq_nil_iff.1 (List.append_eq_nil_iff.1 h5).1
        rw [hx1] at C5
        have C6 := Aside0.mk (fun ok2 w2 H => stop_none w.heap.size pt ok2 (S.rm 1) 1 w2 H hno)
        have C7 := Aside0.mk (fun ok2 w2 H => next_none w.heap.size pt ok2 (S.rm 1) w2 H hhp)
        have TK1 := Aside0.mk trivial
        clear hx hx1 hxk hxm hno hhp
        go_wp2_with (first
          | (go_at_call 14; clear TK1; (refine (C5.out _ HTP.out).mono ?_); rintro e w6 ⟨ok2, rfl, h1, h2, h3⟩; have HP6 := Aside0.mk h1; have HB6 := Aside0.mk (HBr.out.trans h3.b); have TK4 := Aside0.mk trivial; clear h1 h2 h3 HTP HBr)
          | (go_at_call 14; clear TK4; (refine (C6.out _ _ HP6.out).mono ?_); rintro e w7 ⟨rfl, hb⟩; have HP7 := Aside0.mk (HP6.out.below hb); have HB7 := Aside0.mk (HB6.out.trans (below_up hb HP6.out.le)); clear hb HP6 HB6)
          | (go_at_call 20; (refine (C7.out _ _ HP7.out).mono ?_); rintro e w8 ⟨rfl, hb⟩; have HB8 := Aside0.mk (HB7.out.trans (below_up hb HP7.out.le)); clear hb HP7 HB7))
        go_ret
        exact ⟨rfl, HB8.out⟩
end Go.Proofs.Ytceopcfmhidjlaa.PTimerPlays

/- rotalaw05.told: all that is told without a change. Conditions: each theorem's own. -/
import Derived.Test.YtedkacknopcceaaHrn
set_option linter.unusedVariables false
set_option linter.unusedSimpArgs false
namespace Go.Proofs.Ytedkacknopcceaa.QHeap
open Go.RowKit Go.Proofs.Ytedkacknopcceaa.Ef Go.Proofs.Ytedkacknopcceaa.Mp Go.Proofs.Ytedkacknopcceaa.Hp Go.Proofs.YtedkacknopcceaaW.PrintWords Go.Proofs.YtedkacknopcceaaW.PrintLast Go.Proofs.YtedkacknopcceaaW.PrintMore

/-- Is a number among the first so many? -/
def among (l : List S34) (n : Int) (i : Nat) : Bool := (l.take i).any fun x => x.f1 == n
theorem among_next (l : List S34) (n : Int) (i : Nat) (h : i < l.length) : among l n (i + 1) = (among l n i || ((l.getD i z34).f1 == n)) := by
  unfold among
  rw [List.take_succ_eq_append_getElem h, List.any_append]
  simp [h]
theorem among_all (l : List S34) (n : Int) : among l n l.length = true ↔ ∃ x ∈ l.map toN, x.num = n := by
  unfold among
  rw [List.take_length, List.any_eq_true]
  constructor
  · rintro ⟨x, hx, e⟩
    exact ⟨toN x, List.mem_map.2 ⟨x, hx, rfl⟩, by simpa [toN] using e⟩
  · rintro ⟨y, hy, e⟩
    obtain ⟨x, hx, rfl⟩ := List.mem_map.1 hy
    exact ⟨x, hx, by simpa [toN] using e⟩
theorem same_rows {b3 b4 : Nat} {o3 o4 : Nat → Prop} {v3 v4 : Value} {d : List NI} {w : World} (H3 : Kd.R (Kd.int .i64) 3 w b3 o3 v3 (d.map (·.num))) (H4 : Kd.R (Kd.int .i64) 3 w b4 o4 v4 (d.map (·.num))) (hl : d.length ≤ 1000000000000000000) :
    Calls Try.prog 21 #[v3, v4] w fun e w' => e = .returned (.bool true) ∧ Below w.heap.size w w' := by
  obtain ⟨A3, c3, e3⟩ := Kd.R_slice H3
  obtain ⟨A4, c4, e4⟩ := Kd.R_slice H4
  subst e3
  subst e4
  have hm : (d.map (·.num)).length = d.length := List.length_map _
  have q3 := Kd.R_reads' H3
  have q4 := Kd.R_reads' H4
  have hf := same_eq (d.map (·.num)) (by omega) (d.length + 1) (by omega)
  have hcon := rotalaw05_same.calls (d.length + 1) A3 c3 (d.map (·.num)) A4 c4 (d.map (·.num)) true w q3.2.2 q3.2.1 q4.2.2 q4.2.1 hf
  exact hcon.mono fun e w5 h => ⟨h.1, h.2.below⟩
theorem refnums_same (A : Option Addr) (c : Nat) (l : List S34) (next : Int) (d : List NI) (w : World) (hr : Kd.C k34 w A l.length l) (hc : l.length ≤ c) (hl : l.length ≤ most) (hp : d.Perm (l.map toN)) (hs : Sorted d) (ho : Once (l.map toN)) :
    Calls Try.prog 20 #[.agg #[.slice A l.length c, .int .i64 next]] w fun e w' => ∃ v, e = .returned v ∧ Kd.R (Kd.int .i64) 3 w' w.heap.size (fun _ => True) v (d.map (·.num)) ∧ Below w.heap.size w w' := by
  refine (refnums_calls A c l next w hr hc hl).mono ?_
  rintro e w4 ⟨v4, d4, rfl, hp4, hs4, hr4, hb4⟩
  obtain rfl := sorted_one hs hs4 (hp.trans hp4.symm) (once_perm hp ho)
  exact ⟨_, rfl, hr4, hb4⟩
set_option maxHeartbeats 4000000 in
set_option maxRecDepth 100000 in
theorem told_calls (base p : Nat) (ok : Nat → Prop) (A : Option Addr) (c : Nat) (l : List S34) (next n : Int) (w : World) (H : HP w base p ok (l.map toN) next) (hr : Kd.C k34 w A l.length l) (hc : l.length ≤ c) (hl : l.length ≤ most) :
    Calls Try.prog 14 #[.pointer (some ⟨p, 0, none⟩), .agg #[.slice A l.length c, .int .i64 next], .int .i64 n] w fun e w' => e = .returned (.bool true) ∧ Below w.heap.size w w' := by
  have HR := Aside0.mk hr
  have HH := Aside0.mk H
  have hml : (l.length : Int) ≤ 1000000000000000000 := by unfold most at hl; omega
  have HO := Aside0.mk H.once
  clear hr H
  have hu42 := Try.underlying42
  go_enter Try.func14, Try.ntmps14
  go_wp2_with (first
    | ((with_reducible refine gate_dst (N := 4) rfl ?_); refine box_event ?hg (N := 4) ?hd (cs := #[.slice A l.length c, .int .i64 next]) (t := 42) ?hr ?_; (case hd => rfl); (case hg => rfl); (case hr => first | (go_simp; done) | (go_simp; rfl)); intro g1 hg1 w1 hbox hb; have HB1 := Aside0.mk hb; have BK1 := Aside0.mk hbox; clear hb hbox hg1))
  have hs0 : w1.cell? ⟨g1, 0, none⟩ = some (.slice A l.length c) := (blk_cell BK1.out 0).trans rfl
  have hs1 : w1.cell? ⟨g1, 1, none⟩ = some (.int .i64 next) := (blk_cell BK1.out 1).trans rfl
  go_loop [7, 8] (fun v7 v8 => ∃ i : Nat, v7 = .bool (among l n i) ∧ v8 = .int .i64 (i : Int) ∧ Aside0 (i ≤ l.length)) (fun _ v8 => l.length - (intOf v8).toNat)
  case atStart => exact ⟨0, rfl, rfl, ⟨Nat.zero_le _⟩⟩
  case round =>
    obtain ⟨i, rfl, rfl, HI⟩ := hrel
    by_cases hlt : (i : Int) < (l.length : Int)
    · obtain ⟨ad, rfl, hx0, hx1, hx2⟩ := at_T34 HR.out (i : Int) (by omega) hlt
      replace hx1 := (HB1.out.cell (World.block_lt_of_cell? w _ hx1)).trans hx1
      rw [Int.toNat_natCast] at hx1
      obtain ⟨b, hb⟩ : ∃ b, among l n i = b := ⟨_, rfl⟩
      obtain ⟨x, hx⟩ : ∃ x, (rd_T34 l (i : Int)).f1 = x := ⟨_, rfl⟩
      obtain ⟨b2, hb2⟩ : ∃ b2, (x == n) = b2 := ⟨_, rfl⟩
      have HN := Aside0.mk (among_next l n i (by omega))
      have HBq := Aside0.mk hb
      have HXq := Aside0.mk hx
      have HB2 := Aside0.mk hb2
      rw [hx] at hx1
      rw [hb]
      clear hb hx hx0 hx2
      cases b <;> cases b2
      all_goals
        go_wp2
        go_round
        case rel =>
          refine ⟨i + 1, ?_, by go_num, ⟨by omega⟩⟩
          rw [HN.out, HBq.out, show (l.getD i z34).f1 = x from by rw [← HXq.out, rd_at], HB2.out]
          rfl
        case measure => simp [intOf]; omega
    · have hi : i = l.length := by have := HI.out; omega
      subst hi
      obtain ⟨b, hb⟩ : ∃ b, among l n l.length = b := ⟨_, rfl⟩
      have HBq := Aside0.mk hb
      have HALL := Aside0.mk (among_all l n)
      rw [hb]
      clear hb
      cases b
      all_goals
        go_wp2
        go_region_with (first
          | (go_at_call 12; (refine (HP.len base p ok (l.map toN) next _ (HH.out.below (pw_below_drewN HB1.out _))).mono ?_); rintro e w2 ⟨rfl, rfl⟩; rw [List.length_map])
          | (go_at_call 23; (refine (HP.has base p ok (l.map toN) next n (among l n l.length) _ (HH.out.below (pw_below_drewN HB1.out _)) HALL.out).mono ?_); rintro e w2 ⟨he, rfl⟩; rw [HBq.out] at he; subst he)
          | (go_at_call 19; (refine (HP.nums base p ok (l.map toN) next _ (HH.out.below (pw_below_drewN HB1.out _)) (by rw [List.length_map]; unfold most at hl; omega)).mono ?_); rintro e w3 ⟨v3, d3, rfl, hp3, hs3, hr3, hb3⟩; have HB3 := Aside0.mk (below_step (pw_below_drewN HB1.out 1) hb3); have HP3 := Aside0.mk hp3; have HL3 := Aside0.mk (show d3.length ≤ 1000000000000000000 from by have := hp3.length_eq; rw [List.length_map] at this; unfold most at hl; omega); have HS3 := Aside0.mk hs3; have HR3 := Aside0.mk hr3; have hs30 : w3.cell? ⟨g1, 0, none⟩ = some (.slice A l.length c) := (blk_cell (blk_below (w := w1.drewN 1) BK1.out hb3) 0).trans rfl; have hs31 : w3.cell? ⟨g1, 1, none⟩ = some (.int .i64 next) := (blk_cell (blk_below (w := w1.drewN 1) BK1.out hb3) 1).trans rfl; clear hp3 hs3 hr3 hb3)
          | (go_at_call 20; (refine (refnums_same A c l next d3 _ (Kd.C_below HR.out HB3.out) hc hl HP3.out HS3.out HO.out).mono ?_); rintro e w4 ⟨v4, rfl, hr4, hb4⟩; have HB4 := Aside0.mk (below_step HB3.out hb4); have HR4 := Aside0.mk hr4; have HR34 := Aside0.mk (Kd.R_below HR3.out hb4); clear hr4 hb4 HR3)
          | (go_at_call 21; (refine (same_rows HR34.out HR4.out HL3.out).mono ?_); rintro e w5 ⟨rfl, hd⟩; have HB5 := Aside0.mk (below_step HB4.out hd); clear hd))
        all_goals
          go_wp2
          go_ret
          exact ⟨rfl, HB5.out⟩
end Go.Proofs.Ytedkacknopcceaa.QHeap

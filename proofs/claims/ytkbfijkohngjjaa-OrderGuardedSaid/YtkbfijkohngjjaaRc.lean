/- order.Races: all pairs of accesses that race. Conditions: none but that the arguments are there. -/
import Derived.Test.YtkbfijkohngjjaaQOrderx4
import Derived.Test.YtkbfijkohngjjaaQOrderx11b
import Derived.Test.YtkbfijkohngjjaaOq
set_option linter.unusedVariables false
set_option linter.unusedSimpArgs false
namespace Go.Proofs.Ytkbfijkohngjjaa.Od
open Go.RowKit Go.Proofs.Ytkbfijkohngjjaa.Ef Go.Proofs.Ytkbfijkohngjjaa.Mp Go.Proofs.Ytkbfijkohngjjaa.QOrder Go.Proofs.YtkbfijkohngjjaaW.PrintWords Go.Proofs.YtkbfijkohngjjaaW.PrintLast Go.Proofs.YtkbfijkohngjjaaW.PrintMore

def accB (k : Int) : Bool := k == 28 || k == 29 || k == 30 || k == 31 || k == 32
def wrB (k : Int) : Bool := k == 29 || k == 30 || k == 32
def plB (k : Int) : Bool := k == 28 || k == 29
theorem acc_eq (k : Int) : order_access.f k = some (accB k) := by
  unfold order_access.f accB
  by_cases h1 : k = 28
  · simp [h1]
  · by_cases h2 : k = 29
    · simp [h2]
    · by_cases h3 : k = 30
      · simp [h3]
      · by_cases h4 : k = 31
        · simp [h4]
        · simp [h1, h2, h3, h4]
theorem wr_eq (k : Int) : order_writes.f k = some (wrB k) := by
  unfold order_writes.f wrB
  by_cases h2 : k = 29
  · simp [h2]
  · by_cases h3 : k = 30
    · simp [h3]
    · simp [h2, h3]
theorem pl_eq (k : Int) : order_plain.f k = some (plB k) := by
  unfold order_plain.f plB
  by_cases h2 : k = 28
  · simp [h2]
  · simp [h2]
/-- Could two accesses race? -/
def raceB (a b : S36) : Bool := accB a.f3 && accB b.f3 && (a.f4 == b.f4) && !(samG a.f2 b.f2) && !(nob a.f2) && !(nob b.f2) && (wrB a.f3 || wrB b.f3) && (plB a.f3 || plB b.f3)
theorem race_eq (a b : S36) : order_race.f a.f0 a.f1 a.f2.f0 a.f2.f1 a.f3 a.f4 a.f5 a.f6 b.f0 b.f1 b.f2.f0 b.f2.f1 b.f3 b.f4 b.f5 b.f6 = some (raceB a b) := by
  unfold order_race.f raceB
  have e1 : (!(a.f2.f0 == b.f2.f0) || !(a.f2.f1 == b.f2.f1)) = !(samG a.f2 b.f2) := by unfold samG; rw [Bool.not_and]
  have e2 : ∀ g : S34, (!(g.f0 == 0) || !(g.f1 == 0)) = !(nob g) := fun g => by unfold nob; rw [Bool.not_and]
  simp only [acc_eq, wr_eq, pl_eq, e1, e2, Option.bind_some]
  have e3 : (a.f4 == b.f4) = decide (a.f4 = b.f4) := rfl
  by_cases h : a.f4 = b.f4
  · rw [e3, decide_eq_true h]
    cases accB a.f3 <;> cases accB b.f3 <;> cases samG a.f2 b.f2 <;> cases nob a.f2 <;> cases nob b.f2 <;> cases wrB a.f3 <;> cases wrB b.f3 <;> cases plB a.f3 <;> cases plB b.f3 <;> simp [h]
  · rw [e3, decide_eq_false h]
    cases accB a.f3 <;> cases accB b.f3 <;> simp [h]
/-- The races of i with the first d of those behind it. -/
def partR (l : List S36) (o : List S60) (i d : Nat) : List S50 := ((List.range d).filter (fun d => raceB (E l i) (E l (i + 1 + d)) && !(inS (rowF l o (i + 1 + d)) i))).map (fun d => (⟨(i : Int), ((i + 1 + d : Nat) : Int)⟩ : S50))
theorem part_len (l : List S36) (o : List S60) (i d : Nat) : (partR l o i d).length ≤ d := by
  unfold partR
  rw [List.length_map]
  have := List.length_filter_le (fun d => raceB (E l i) (E l (i + 1 + d)) && !(inS (rowF l o (i + 1 + d)) i)) (List.range d)
  rwa [List.length_range] at this
theorem part_yes {l : List S36} {o : List S60} {i d : Nat} (h1 : raceB (E l i) (E l (i + 1 + d)) = true) (h2 : inS (rowF l o (i + 1 + d)) i = false) : partR l o i (d + 1) = partR l o i d ++ [(⟨(i : Int), ((i + 1 + d : Nat) : Int)⟩ : S50)] := by
  unfold partR
  rw [List.range_succ, List.filter_append]
  simp [h1, h2]
theorem part_no {l : List S36} {o : List S60} {i d : Nat} (h : raceB (E l i) (E l (i + 1 + d)) = false ∨ inS (rowF l o (i + 1 + d)) i = true) : partR l o i (d + 1) = partR l o i d := by
  unfold partR
  rw [List.range_succ, List.filter_append]
  rcases h with h | h <;> simp [h]
/-- The races of the first i. -/
def accR (l : List S36) (o : List S60) : Nat → List S50
  | 0 => []
  | i + 1 => accR l o i ++ partR l o i (l.length - (i + 1))
theorem accR_len (l : List S36) (o : List S60) (hl : l.length ≤ 65536) : ∀ i, (accR l o i).length ≤ i * 65536
  | 0 => Nat.le_refl _
  | i + 1 => by
    unfold accR
    rw [List.length_append]
    have h1 := accR_len l o hl i
    have h2 := part_len l o i (l.length - (i + 1))
    omega
noncomputable def raceL (l : List S36) (caps : List Int) : List S50 := accR l (canonA l caps) l.length
noncomputable def racesF (l : List S36) (caps : List Int) : List S50 × Int × Int := if errF l caps = 0 then (raceL l caps, 0, 0) else ([], (arrowsF l caps).2.1, errF l caps)
theorem at_set {W0 W : World} {A : Option Addr} {rs : List (List Int)} (hC : (Kd.slice 32 (Kd.int .u64)).C W0 A rs.length rs) (hb : Below W0.heap.size W0 W) {j : Nat} {r : List Int} (hj : rs[j]? = some r) : ∃ ad B c, A = some ad ∧ W.cell? (ad.add j) = some (.slice B r.length c) ∧ r.length ≤ c ∧ (Kd.int .u64).C W B r.length r := by
  have hlt := (List.getElem?_eq_some_iff.1 hj).1
  obtain ⟨ad, c, e1, h1, hk, hc⟩ := Kd.C_get (Kd.C_below hC hb) [] (j : Int) (by omega) (by omega)
  have e : rs.getD (j : Int).toNat [] = r := by rw [Int.toNat_natCast, List.getD_eq_getElem?_getD, hj]; rfl
  rw [e] at hk
  obtain ⟨B, cc, rfl, h2, h3⟩ := hk
  refine ⟨ad, B, cc, e1, ?_, h2, h3⟩
  have := hc 0 _ rfl
  rw [Int.toNat_natCast, show j * (Kd.slice 32 (Kd.int .u64)).sz + 0 = j from by show j * 1 + 0 = j; omega] at this
  exact this
end Go.Proofs.Ytkbfijkohngjjaa.Od
namespace Go.Proofs.Ytkbfijkohngjjaa.QOrder
open Go.RowKit Go.Proofs.Ytkbfijkohngjjaa.Ef Go.Proofs.Ytkbfijkohngjjaa.Mp Go.Proofs.Ytkbfijkohngjjaa.Od Go.Proofs.YtkbfijkohngjjaaW.PrintWords Go.Proofs.YtkbfijkohngjjaaW.PrintLast Go.Proofs.YtkbfijkohngjjaaW.PrintMore
noncomputable def order_Races.f (k : Nat) (l0 : List S36) (l1 : List Int) : Option (List S50 × Int × Int) := some (racesF l0 l1)
theorem order_Races.mono : ∀ a0 a1 k, LeO (order_Races.f k a0 a1) (order_Races.f (k + 1) a0 a1) := fun _ _ _ => LeO.refl _
set_option maxHeartbeats 8000000 in
set_option maxRecDepth 100000 in
theorem order_Races.calls (k : Nat) (A0 : Option Addr) (c0 : Nat) (l0 : List (S36)) (A1 : Option Addr) (c1 : Nat) (l1 : List Int) (r1 : List (S50)) (r2 : Int) (r3 : Int) (w : World) (hr0 : Kd.C k36 w A0 l0.length l0) (hc0 : l0.length ≤ c0) (hr1 : Kd.C (Kd.int .i64) w A1 l1.length l1) (hc1 : l1.length ≤ c1) (h : order_Races.f k l0 l1 = some (r1, r2, r3)) :
    Calls Try.prog 24 #[.slice A0 l0.length c0, .slice A1 l1.length c1] w fun e w' => ∃ v0_ : Value, e = .returned (.tuple #[v0_, .int .i64 r2, .int .i64 r3]) ∧ Kd.R k50 50 w' w.heap.size (fun _ => True) v0_ r1 ∧ Below w.heap.size w w' := by
  have hu36 := Try.underlying36
  have hu50 := Try.underlying50
  have hu46 := Try.underlying46
  have hu22 := Try.underlying22
  have hu61 := Try.underlying61
  replace h : racesF l0 l1 = (r1, r2, r3) := Option.some.inj h
  obtain ⟨a1, a2, a3, ha⟩ : ∃ a1 a2 a3, setsF l0 l1 = (a1, a2, a3) := ⟨_, _, _, rfl⟩
  have HSet := Aside0.mk (order_sets.calls A0 c0 l0 A1 c1 l1 a1 a2 a3 w hr0 hc0 hr1 hc1 (by unfold order_sets.f; rw [ha]))
  have HC0 := Aside0.mk hr0
  have HL0 := Aside0.mk hc0
  by_cases he : errF l0 l1 = 0
  · obtain ⟨hn, hcan⟩ := arrowsF_e0 (l := l0) (caps := l1) he
    have hse : setsF l0 l1 = (rowL l0 (canonA l0 l1) l0.length, 0, 0) := by unfold setsF; rw [hcan]; rfl
    rw [ha] at hse
    cases hse
    have hr : (r1, r2, r3) = (accR l0 (canonA l0 l1) l0.length, (0 : Int), (0 : Int)) := by rw [← h]; unfold racesF; rw [if_pos he]; rfl
    cases hr
    have HN := Aside0.mk hn
    have HFw := Aside0.mk (canon_fwd l0 l1)
    clear hr0 hc0 hr1 hc1 h hn ha hcan he
    generalize canonA l0 l1 = o at *
    go_enter Try.func24, Try.ntmps24
    go_wp2_with ((go_at_call 31; (refine HSet.out.mono ?_); rintro e w1 ⟨va, rfl, ho, hb⟩; obtain ⟨As, cs, hv⟩ := Kd.S_slice ho; rw [rowL_len] at hv; subst hv; have HS1 := Aside0.mk ho; have HB1 := Aside0.mk hb; clear ho hb HSet))
    go_loopw [10, 29] (fun v10 v29 wr => ∃ i : Nat, v29 = .int .i64 (i : Int) ∧ Aside0 (i ≤ l0.length) ∧ Aside0 (Below w.heap.size w wr) ∧ Aside0 (Kd.S (Kd.slice 32 (Kd.int .u64)) 65 wr w.heap.size (fun _ => True) (.slice As l0.length cs) (rowL l0 o l0.length)) ∧ Aside0 (Kd.R k50 50 wr w.heap.size (fun _ => True) v10 (accR l0 o i))) (fun _ v29 _ => l0.length - (intOf v29).toNat)
    case atStart => exact ⟨0, rfl, ⟨Nat.zero_le _⟩, HB1, HS1, ⟨Kd.R_nil _ _ _ _ _⟩⟩
    case round =>
      clear HS1 HB1
      obtain ⟨i, rfl, HI, HB, HS, HR⟩ := hrel
      by_cases hlt : (i : Int) < (l0.length : Int)
      · have hi0 : (0 : Int) ≤ (i : Int) := by omega
        have hil : i < l0.length := by omega
        have HIL := Aside0.mk hil
        have hw1 := wrap_succ hil HN.out
        have HW := Aside0.mk hw1
        have HLT := Aside0.mk hlt
        obtain ⟨x, HX⟩ : ∃ x, Aside0 (E l0 i = x) := ⟨_, ⟨rfl⟩⟩
        obtain ⟨ad, e1, hx0, hx1, hx2, hx3, hx4, hx5, hx6, hx7⟩ := at_ev HC0.out HB.out hil HX.out
        cases e1
        obtain ⟨m, HM⟩ : ∃ m, Aside0 (i + 1 = m) := ⟨_, ⟨rfl⟩⟩
        rw [HM.out] at hw1
        have hm0 : (0 : Int) ≤ (m : Int) := by omega
        have hm1 : (m : Int) ≤ (l0.length : Int) := by have := HM.out; omega
        have hm2 : m ≤ l0.length := by omega
        have hm3 : m ≤ c0 := by have := HL0.out; omega
        have hm4 : l0.length ≤ c0 := HL0.out
        clear hil
        have HDr := Aside0.mk (Kd.C_drop HC0.out hm2 HL0.out)
        obtain ⟨nd, HND⟩ : ∃ nd, Aside0 (l0.length - m = nd) := ⟨_, ⟨rfl⟩⟩
        by_cases hcm : c0 = m
        · rw [if_pos hcm] at HDr
          go_upto_region 9 with (first
        | ((with_reducible refine gate_dst (N := 12) rfl ?_); refine box_event ?hg (N := 12) ?hd (cs := zE) (t := 36) ?hr ?_; (case hd => rfl); (case hg => rfl); (case hr => first | (go_simp; done) | (go_simp; rfl)); intro bl hbl w5 hbox hb; have HB5 := Aside0.mk hb; have BK5 := Aside0.mk hbox; have HBL := Aside0.mk (show wr.heap.size ≤ bl by omega); clear hb hbox hbl hx0 hx1 hx2 hx3 hx4 hx5 hx6 hx7)
        | ((with_reducible refine gate_store (t := 36) (p := 12) (v := .tmp 33) rfl ?_); refine step_store rfl rfl rfl BK5.out rfl (u := .agg (cE x)) (seg := (cE x).toList) rfl rfl (by kernel_rfl) (by simp [Value.oneCell']) (Nat.le_refl 8) (cur' := cE x) rfl ?_; intro w6 hb6 hg6 hs6; have HB6 := Aside0.mk (below_mput HB5.out hg6 (show wr.heap.size ≤ bl by have := HBL.out; omega) HB5.out.size); have BX := Aside0.mk hb6; clear hb6 hg6 hs6 BK5 HB5))
          have HSe := Aside0.mk (Kd.S_below HS.out HB6.out)
          have HRe := Aside0.mk (Kd.R_below HR.out HB6.out)
          have HBe := Aside0.mk (below_step HB.out HB6.out)
          clear HS HR HB HB6
          rw [HND.out]
          try rw [hw1]
          go_loopw [10, 39] (fun v10 v39 wr => ∃ d : Nat, v39 = .int .i64 (d : Int) ∧ Aside0 (d ≤ nd) ∧ Aside0 (Below w.heap.size w wr) ∧ Aside0 (wr.heap[bl]? = some (.cells (cE x) 36 (0, 0))) ∧ Aside0 (Kd.S (Kd.slice 32 (Kd.int .u64)) 65 wr w.heap.size (fun _ => True) (.slice As l0.length cs) (rowL l0 o l0.length)) ∧ Aside0 (Kd.R k50 50 wr w.heap.size (fun _ => True) v10 (accR l0 o i ++ partR l0 o i d))) (fun _ v39 _ => nd - (intOf v39).toNat)
          case atStart => exact ⟨0, rfl, ⟨Nat.zero_le _⟩, HBe, BX, HSe, ⟨(List.append_nil (accR l0 o i)).symm ▸ HRe.out⟩⟩
          case round =>
            clear HSe HRe HBe BX
            obtain ⟨d, rfl, HD, HB, BX, HS, HR⟩ := hrel
            by_cases hd : d < nd
            · have HDn := Aside0.mk hd
              have d0 : (0 : Int) ≤ (d : Int) := by omega
              have d1 : (d : Int) < (nd : Int) := by omega
              have HWd := Aside0.mk (wrap_succ (n := 65536) (show d < 65536 by have := HND.out; have := HN.out; omega) (Nat.le_refl _))
              obtain ⟨j, HJ⟩ : ∃ j, Aside0 (m + d = j) := ⟨_, ⟨rfl⟩⟩
              have HJl := Aside0.mk (show j < l0.length by have := HJ.out; have := HND.out; omega)
              have hj : wrap64 ((m : Int) + (d : Int)) = (j : Int) := by rw [wrap64]; have := HJ.out; have := HJl.out; have := HN.out; omega
              have j0 : (0 : Int) ≤ (j : Int) := by omega
              have j1 : (j : Int) < (l0.length : Int) := by have := HJl.out; omega
              obtain ⟨y, HY⟩ : ∃ y, Aside0 (E l0 j = y) := ⟨_, ⟨rfl⟩⟩
              obtain ⟨ady, eY, hx0, hx1, hx2, hx3, hx4, hx5, hx6, hx7⟩ := at_ev (l := l0.drop m) HDr.out HB.out (i := d) (by rw [List.length_drop]; have := HND.out; omega) (x := y) (by rw [← HY.out, ← HJ.out]; unfold E; rw [List.getD_eq_getElem?_getD, List.getD_eq_getElem?_getD, List.getElem?_drop])
              cases eY
              have HRj := Aside0.mk (show (rowL l0 o l0.length)[j]? = some (rowF l0 o j) from rowL_get? HJl.out)
              have HI6 := Aside0.mk (show i ≤ 65536 by have := HIL.out; have := HN.out; omega)
              obtain ⟨A5, c5, e5⟩ := Kd.R_slice HR.out
              obtain ⟨n5, HN5⟩ : ∃ n5, Aside0 ((accR l0 o i ++ partR l0 o i d).length = n5) := ⟨_, ⟨rfl⟩⟩
              rw [HN5.out] at e5
              subst e5
              have HM5 := Aside0.mk (show n5 ≤ 4295032832 by rw [← HN5.out, List.length_append]; have h1 := accR_len l0 o HN.out i; have h2 := part_len l0 o i d; have h3 := HIL.out; have h4 := HN.out; have h5 := HND.out; omega)
              have HEij := Aside0.mk (show i + 1 + d = j by rw [HM.out]; exact HJ.out)
              by_cases hrb : raceB x y = true
              · have HRb := Aside0.mk hrb
                by_cases hin : inS (rowF l0 o j) i = true
                · have HIn := Aside0.mk hin
                  clear hrb hin hd
                  go_wp2_with (first
                  | ((with_reducible refine gate_dst (N := 14) rfl ?_); refine box_event ?hg (N := 14) ?hd (cs := zE) (t := 36) ?hr ?_; (case hd => rfl); (case hg => rfl); (case hr => first | (go_simp; done) | (go_simp; rfl)); intro bm hbm w7 hbox hb; have HB7 := Aside0.mk hb; have BK7 := Aside0.mk hbox; have HBM := Aside0.mk (show wr.heap.size ≤ bm by omega); clear hb hbox hbm hx0 hx1 hx2 hx3 hx4 hx5 hx6 hx7)
                  | ((with_reducible refine gate_store (t := 36) (p := 14) (v := .tmp 43) rfl ?_); refine step_store rfl rfl rfl BK7.out rfl (u := .agg (cE y)) (seg := (cE y).toList) rfl rfl (by kernel_rfl) (by simp [Value.oneCell']) (Nat.le_refl 8) (cur' := cE y) rfl ?_; intro w8 hb8 hg8 hs8; have HB8 := Aside0.mk (below_mput HB7.out hg8 (show wr.heap.size ≤ bm by have := HBM.out; omega) HB7.out.size); have BY8 := Aside0.mk hb8; have BX8 := Aside0.mk (blk_below BX.out HB8.out); have z0 : w8.cell? ⟨bl, 0, none⟩ = some (.int .u64 x.f0) := (blk_cell BX8.out 0).trans rfl; have z1 : w8.cell? ⟨bl, 1, none⟩ = some (.int .i64 x.f1) := (blk_cell BX8.out 1).trans rfl; have z2 : w8.cell? ⟨bl, 2, none⟩ = some (.int .i64 x.f2.f0) := (blk_cell BX8.out 2).trans rfl; have z3 : w8.cell? ⟨bl, 3, none⟩ = some (.int .i64 x.f2.f1) := (blk_cell BX8.out 3).trans rfl; have z4 : w8.cell? ⟨bl, 4, none⟩ = some (.int .i64 x.f3) := (blk_cell BX8.out 4).trans rfl; have z5 : w8.cell? ⟨bl, 5, none⟩ = some (.int .i64 x.f4) := (blk_cell BX8.out 5).trans rfl; have z6 : w8.cell? ⟨bl, 6, none⟩ = some (.int .i64 x.f5) := (blk_cell BX8.out 6).trans rfl; have z7 : w8.cell? ⟨bl, 7, none⟩ = some (.int .i64 x.f6) := (blk_cell BX8.out 7).trans rfl; have y0 : w8.cell? ⟨bm, 0, none⟩ = some (.int .u64 y.f0) := (blk_cell BY8.out 0).trans rfl; have y1 : w8.cell? ⟨bm, 1, none⟩ = some (.int .i64 y.f1) := (blk_cell BY8.out 1).trans rfl; have y2 : w8.cell? ⟨bm, 2, none⟩ = some (.int .i64 y.f2.f0) := (blk_cell BY8.out 2).trans rfl; have y3 : w8.cell? ⟨bm, 3, none⟩ = some (.int .i64 y.f2.f1) := (blk_cell BY8.out 3).trans rfl; have y4 : w8.cell? ⟨bm, 4, none⟩ = some (.int .i64 y.f3) := (blk_cell BY8.out 4).trans rfl; have y5 : w8.cell? ⟨bm, 5, none⟩ = some (.int .i64 y.f4) := (blk_cell BY8.out 5).trans rfl; have y6 : w8.cell? ⟨bm, 6, none⟩ = some (.int .i64 y.f5) := (blk_cell BY8.out 6).trans rfl; have y7 : w8.cell? ⟨bm, 7, none⟩ = some (.int .i64 y.f6) := (blk_cell BY8.out 7).trans rfl; clear hb8 hg8 hs8 BK7 HB7)
                  | (go_at_call 46; (refine (order_race.calls x.f0 x.f1 x.f2.f0 x.f2.f1 x.f3 x.f4 x.f5 x.f6 y.f0 y.f1 y.f2.f0 y.f2.f1 y.f3 y.f4 y.f5 y.f6 true w8 (by { rw [race_eq, HRb.out] })).mono ?_); rintro e w9 ⟨rfl, hb9⟩; have HB9 := Aside0.mk (below_step HB8.out hb9); have BX9 := Aside0.mk (blk_below BX8.out hb9); clear hb9 z0 z1 z2 z3 z4 z5 z6 z7 y0 y1 y2 y3 y4 y5 y6 y7; obtain ⟨ads, Br, cr, eA, srow, hcr, hCr⟩ := at_set (Kd.S_reads' HS.out).2.2 HB9.out HRj.out; cases eA; have HCr := Aside0.mk hCr; clear hCr)
                  | (go_at_call 32; (refine (order_in.calls Br cr (rowF l0 o j) (i : Int) (inS (rowF l0 o j) i) w9 HCr.out hcr (in_eq (row_in HFw.out j).2.1 HI6.out)).mono ?_); rintro e w10 ⟨rfl, ⟨nq, rfl⟩⟩; have HBa := Aside0.mk (HB9.out.trans (below_up (pw_below_drewN (Below.refl _ _) nq) HB9.out.size)); have BXa := Aside0.mk (blk_below BX9.out (pw_below_drewN (Below.refl w9.heap.size w9) nq)); clear srow; generalize w9.drewN nq = wa at *; rw [HIn.out]))
                  go_roundw
                  case rel => exact ⟨d + 1, by rw [HWd.out], ⟨HDn.out⟩, ⟨below_step HB.out HBa.out⟩, BXa, ⟨Kd.S_below HS.out HBa.out⟩, ⟨by rw [part_no (.inr (by rw [HEij.out]; exact HIn.out))]; exact Kd.R_below HR.out HBa.out⟩⟩
                  case measure => exact meas_lt HDn.out HWd.out
                · have HIn := Aside0.mk (show inS (rowF l0 o j) i = false by simpa using hin)
                  clear hrb hin hd
                  go_wp2_with (first
                  | ((with_reducible refine gate_dst (N := 14) rfl ?_); refine box_event ?hg (N := 14) ?hd (cs := zE) (t := 36) ?hr ?_; (case hd => rfl); (case hg => rfl); (case hr => first | (go_simp; done) | (go_simp; rfl)); intro bm hbm w7 hbox hb; have HB7 := Aside0.mk hb; have BK7 := Aside0.mk hbox; have HBM := Aside0.mk (show wr.heap.size ≤ bm by omega); clear hb hbox hbm hx0 hx1 hx2 hx3 hx4 hx5 hx6 hx7)
                  | ((with_reducible refine gate_store (t := 36) (p := 14) (v := .tmp 43) rfl ?_); refine step_store rfl rfl rfl BK7.out rfl (u := .agg (cE y)) (seg := (cE y).toList) rfl rfl (by kernel_rfl) (by simp [Value.oneCell']) (Nat.le_refl 8) (cur' := cE y) rfl ?_; intro w8 hb8 hg8 hs8; have HB8 := Aside0.mk (below_mput HB7.out hg8 (show wr.heap.size ≤ bm by have := HBM.out; omega) HB7.out.size); have BY8 := Aside0.mk hb8; have BX8 := Aside0.mk (blk_below BX.out HB8.out); have z0 : w8.cell? ⟨bl, 0, none⟩ = some (.int .u64 x.f0) := (blk_cell BX8.out 0).trans rfl; have z1 : w8.cell? ⟨bl, 1, none⟩ = some (.int .i64 x.f1) := (blk_cell BX8.out 1).trans rfl; have z2 : w8.cell? ⟨bl, 2, none⟩ = some (.int .i64 x.f2.f0) := (blk_cell BX8.out 2).trans rfl; have z3 : w8.cell? ⟨bl, 3, none⟩ = some (.int .i64 x.f2.f1) := (blk_cell BX8.out 3).trans rfl; have z4 : w8.cell? ⟨bl, 4, none⟩ = some (.int .i64 x.f3) := (blk_cell BX8.out 4).trans rfl; have z5 : w8.cell? ⟨bl, 5, none⟩ = some (.int .i64 x.f4) := (blk_cell BX8.out 5).trans rfl; have z6 : w8.cell? ⟨bl, 6, none⟩ = some (.int .i64 x.f5) := (blk_cell BX8.out 6).trans rfl; have z7 : w8.cell? ⟨bl, 7, none⟩ = some (.int .i64 x.f6) := (blk_cell BX8.out 7).trans rfl; have y0 : w8.cell? ⟨bm, 0, none⟩ = some (.int .u64 y.f0) := (blk_cell BY8.out 0).trans rfl; have y1 : w8.cell? ⟨bm, 1, none⟩ = some (.int .i64 y.f1) := (blk_cell BY8.out 1).trans rfl; have y2 : w8.cell? ⟨bm, 2, none⟩ = some (.int .i64 y.f2.f0) := (blk_cell BY8.out 2).trans rfl; have y3 : w8.cell? ⟨bm, 3, none⟩ = some (.int .i64 y.f2.f1) := (blk_cell BY8.out 3).trans rfl; have y4 : w8.cell? ⟨bm, 4, none⟩ = some (.int .i64 y.f3) := (blk_cell BY8.out 4).trans rfl; have y5 : w8.cell? ⟨bm, 5, none⟩ = some (.int .i64 y.f4) := (blk_cell BY8.out 5).trans rfl; have y6 : w8.cell? ⟨bm, 6, none⟩ = some (.int .i64 y.f5) := (blk_cell BY8.out 6).trans rfl; have y7 : w8.cell? ⟨bm, 7, none⟩ = some (.int .i64 y.f6) := (blk_cell BY8.out 7).trans rfl; clear hb8 hg8 hs8 BK7 HB7)
                  | (go_at_call 46; (refine (order_race.calls x.f0 x.f1 x.f2.f0 x.f2.f1 x.f3 x.f4 x.f5 x.f6 y.f0 y.f1 y.f2.f0 y.f2.f1 y.f3 y.f4 y.f5 y.f6 true w8 (by { rw [race_eq, HRb.out] })).mono ?_); rintro e w9 ⟨rfl, hb9⟩; have HB9 := Aside0.mk (below_step HB8.out hb9); have BX9 := Aside0.mk (blk_below BX8.out hb9); clear hb9 z0 z1 z2 z3 z4 z5 z6 z7 y0 y1 y2 y3 y4 y5 y6 y7; obtain ⟨ads, Br, cr, eA, srow, hcr, hCr⟩ := at_set (Kd.S_reads' HS.out).2.2 HB9.out HRj.out; cases eA; have HCr := Aside0.mk hCr; clear hCr)
                  | (go_at_call 32; (refine (order_in.calls Br cr (rowF l0 o j) (i : Int) (inS (rowF l0 o j) i) w9 HCr.out hcr (in_eq (row_in HFw.out j).2.1 HI6.out)).mono ?_); rintro e w10 ⟨rfl, ⟨nq, rfl⟩⟩; have HBa := Aside0.mk (HB9.out.trans (below_up (pw_below_drewN (Below.refl _ _) nq) HB9.out.size)); have BXa := Aside0.mk (blk_below BX9.out (pw_below_drewN (Below.refl w9.heap.size w9) nq)); clear srow; generalize w9.drewN nq = wa at *; rw [HIn.out])
                  | ((with_reducible refine gate_builtin (b := .append) (xs := #[.tmp 60, .tmp 64]) rfl ?_); at_builtin; refine Kd.R_append k50 (w0 := w) (W := wa) w.heap.size rfl (.tmp 60) (.tmp 64) 46 50 (.agg #[.int .i64 0, .int .i64 0]) 16 rfl Try.underlying46 info50 rfl (by decide) (by decide) (.slice A5 n5 c5) (accR l0 o i ++ partR l0 o i d) (⟨(i : Int), (j : Int)⟩ : S50) [.int .i64 (i : Int), .int .i64 (j : Int)] (fun _ => True) (fun _ => False) rfl rfl ?aP (fun _ hk => hk.elim) ?aF ?aO ?aB ?aS ?aL ?_; (case aP => exact k50_mkM _ _ _ (⟨(i : Int), (j : Int)⟩ : S50)); (case aF => exact fun _ _ => trivial); (case aO => exact Kd.R_below HR.out HBa.out); (case aB => exact below_step HB.out HBa.out); (case aS => exact (below_step HB.out HBa.out).size); (case aL => rw [HN5.out]; have := HM5.out; omega); intro v_ wb ho_ hb_ hg_ hat_; have HRb2 := Aside0.mk ho_; have HBb := Aside0.mk hb_; have HSb := Aside0.mk (Kd.S_over' (Kd.S_below HS.out HBa.out) (Kd.R_typed (Kd.R_below HR.out HBa.out)) (by decide) hg_); have BXb := Aside0.mk (blk_grown BXa.out hg_ (Kd.R_ne (Kd.R_below HR.out HBa.out) BXa.out (by decide))); clear ho_ hb_ hg_ hat_))
                  go_roundw
                  case rel => exact ⟨d + 1, by rw [HWd.out], ⟨HDn.out⟩, HBb, BXb, HSb, ⟨by
                    rw [part_yes (by rw [HEij.out, HX.out, HY.out]; exact HRb.out) (by rw [HEij.out]; exact HIn.out), HEij.out, ← List.append_assoc]
                    exact HRb2.out⟩⟩
                  case measure => exact meas_lt HDn.out HWd.out
              · have HRb := Aside0.mk (show raceB x y = false by simpa using hrb)
                clear hrb hd
                go_wp2_with (first
                | ((with_reducible refine gate_dst (N := 14) rfl ?_); refine box_event ?hg (N := 14) ?hd (cs := zE) (t := 36) ?hr ?_; (case hd => rfl); (case hg => rfl); (case hr => first | (go_simp; done) | (go_simp; rfl)); intro bm hbm w7 hbox hb; have HB7 := Aside0.mk hb; have BK7 := Aside0.mk hbox; have HBM := Aside0.mk (show wr.heap.size ≤ bm by omega); clear hb hbox hbm hx0 hx1 hx2 hx3 hx4 hx5 hx6 hx7)
                | ((with_reducible refine gate_store (t := 36) (p := 14) (v := .tmp 43) rfl ?_); refine step_store rfl rfl rfl BK7.out rfl (u := .agg (cE y)) (seg := (cE y).toList) rfl rfl (by kernel_rfl) (by simp [Value.oneCell']) (Nat.le_refl 8) (cur' := cE y) rfl ?_; intro w8 hb8 hg8 hs8; have HB8 := Aside0.mk (below_mput HB7.out hg8 (show wr.heap.size ≤ bm by have := HBM.out; omega) HB7.out.size); have BY8 := Aside0.mk hb8; have BX8 := Aside0.mk (blk_below BX.out HB8.out); have z0 : w8.cell? ⟨bl, 0, none⟩ = some (.int .u64 x.f0) := (blk_cell BX8.out 0).trans rfl; have z1 : w8.cell? ⟨bl, 1, none⟩ = some (.int .i64 x.f1) := (blk_cell BX8.out 1).trans rfl; have z2 : w8.cell? ⟨bl, 2, none⟩ = some (.int .i64 x.f2.f0) := (blk_cell BX8.out 2).trans rfl; have z3 : w8.cell? ⟨bl, 3, none⟩ = some (.int .i64 x.f2.f1) := (blk_cell BX8.out 3).trans rfl; have z4 : w8.cell? ⟨bl, 4, none⟩ = some (.int .i64 x.f3) := (blk_cell BX8.out 4).trans rfl; have z5 : w8.cell? ⟨bl, 5, none⟩ = some (.int .i64 x.f4) := (blk_cell BX8.out 5).trans rfl; have z6 : w8.cell? ⟨bl, 6, none⟩ = some (.int .i64 x.f5) := (blk_cell BX8.out 6).trans rfl; have z7 : w8.cell? ⟨bl, 7, none⟩ = some (.int .i64 x.f6) := (blk_cell BX8.out 7).trans rfl; have y0 : w8.cell? ⟨bm, 0, none⟩ = some (.int .u64 y.f0) := (blk_cell BY8.out 0).trans rfl; have y1 : w8.cell? ⟨bm, 1, none⟩ = some (.int .i64 y.f1) := (blk_cell BY8.out 1).trans rfl; have y2 : w8.cell? ⟨bm, 2, none⟩ = some (.int .i64 y.f2.f0) := (blk_cell BY8.out 2).trans rfl; have y3 : w8.cell? ⟨bm, 3, none⟩ = some (.int .i64 y.f2.f1) := (blk_cell BY8.out 3).trans rfl; have y4 : w8.cell? ⟨bm, 4, none⟩ = some (.int .i64 y.f3) := (blk_cell BY8.out 4).trans rfl; have y5 : w8.cell? ⟨bm, 5, none⟩ = some (.int .i64 y.f4) := (blk_cell BY8.out 5).trans rfl; have y6 : w8.cell? ⟨bm, 6, none⟩ = some (.int .i64 y.f5) := (blk_cell BY8.out 6).trans rfl; have y7 : w8.cell? ⟨bm, 7, none⟩ = some (.int .i64 y.f6) := (blk_cell BY8.out 7).trans rfl; clear hb8 hg8 hs8 BK7 HB7)
                | (go_at_call 46; (refine (order_race.calls x.f0 x.f1 x.f2.f0 x.f2.f1 x.f3 x.f4 x.f5 x.f6 y.f0 y.f1 y.f2.f0 y.f2.f1 y.f3 y.f4 y.f5 y.f6 false w8 (by { rw [race_eq, HRb.out] })).mono ?_); rintro e w9 ⟨rfl, hb9⟩; have HB9 := Aside0.mk (below_step HB8.out hb9); have BX9 := Aside0.mk (blk_below BX8.out hb9); clear hb9 z0 z1 z2 z3 z4 z5 z6 z7 y0 y1 y2 y3 y4 y5 y6 y7))
                go_roundw
                case rel => exact ⟨d + 1, by rw [HWd.out], ⟨HDn.out⟩, ⟨below_step HB.out HB9.out⟩, BX9, ⟨Kd.S_below HS.out HB9.out⟩, ⟨by rw [part_no (.inl (by rw [HEij.out, HX.out, HY.out]; exact HRb.out))]; exact Kd.R_below HR.out HB9.out⟩⟩
                case measure => exact meas_lt HDn.out HWd.out
            · have hde : d = nd := by have := HD.out; omega
              subst hde
              go_wp2
              rw [← hcm]
              clear hcm
              go_roundw
              case rel => exact ⟨i + 1, by first | rw [HW.out] | rw [HM.out], ⟨HIL.out⟩, HB, HS, ⟨by
                have e : accR l0 o (i + 1) = accR l0 o i ++ partR l0 o i d := by
                  conv => lhs; unfold accR
                  rw [HM.out, HND.out]
                rw [e]; exact HR.out⟩⟩
              case measure => exact meas_lt (Int.ofNat_lt.1 HLT.out) HW.out
        · rw [if_neg hcm] at HDr
          replace HDr : Aside0 (Kd.C k36 w (some (ad.add (m * 8))) (l0.drop m).length (l0.drop m)) := HDr
          go_upto_region 9 with (first
        | ((with_reducible refine gate_dst (N := 12) rfl ?_); refine box_event ?hg (N := 12) ?hd (cs := zE) (t := 36) ?hr ?_; (case hd => rfl); (case hg => rfl); (case hr => first | (go_simp; done) | (go_simp; rfl)); intro bl hbl w5 hbox hb; have HB5 := Aside0.mk hb; have BK5 := Aside0.mk hbox; have HBL := Aside0.mk (show wr.heap.size ≤ bl by omega); clear hb hbox hbl hx0 hx1 hx2 hx3 hx4 hx5 hx6 hx7)
        | ((with_reducible refine gate_store (t := 36) (p := 12) (v := .tmp 33) rfl ?_); refine step_store rfl rfl rfl BK5.out rfl (u := .agg (cE x)) (seg := (cE x).toList) rfl rfl (by kernel_rfl) (by simp [Value.oneCell']) (Nat.le_refl 8) (cur' := cE x) rfl ?_; intro w6 hb6 hg6 hs6; have HB6 := Aside0.mk (below_mput HB5.out hg6 (show wr.heap.size ≤ bl by have := HBL.out; omega) HB5.out.size); have BX := Aside0.mk hb6; clear hb6 hg6 hs6 BK5 HB5))
          have HSe := Aside0.mk (Kd.S_below HS.out HB6.out)
          have HRe := Aside0.mk (Kd.R_below HR.out HB6.out)
          have HBe := Aside0.mk (below_step HB.out HB6.out)
          clear HS HR HB HB6
          rw [HND.out]
          try rw [hw1]
          go_loopw [10, 39] (fun v10 v39 wr => ∃ d : Nat, v39 = .int .i64 (d : Int) ∧ Aside0 (d ≤ nd) ∧ Aside0 (Below w.heap.size w wr) ∧ Aside0 (wr.heap[bl]? = some (.cells (cE x) 36 (0, 0))) ∧ Aside0 (Kd.S (Kd.slice 32 (Kd.int .u64)) 65 wr w.heap.size (fun _ => True) (.slice As l0.length cs) (rowL l0 o l0.length)) ∧ Aside0 (Kd.R k50 50 wr w.heap.size (fun _ => True) v10 (accR l0 o i ++ partR l0 o i d))) (fun _ v39 _ => nd - (intOf v39).toNat)
          case atStart => exact ⟨0, rfl, ⟨Nat.zero_le _⟩, HBe, BX, HSe, ⟨(List.append_nil (accR l0 o i)).symm ▸ HRe.out⟩⟩
          case round =>
            clear HSe HRe HBe BX
            obtain ⟨d, rfl, HD, HB, BX, HS, HR⟩ := hrel
            by_cases hd : d < nd
            · have HDn := Aside0.mk hd
              have d0 : (0 : Int) ≤ (d : Int) := by omega
              have d1 : (d : Int) < (nd : Int) := by omega
              have HWd := Aside0.mk (wrap_succ (n := 65536) (show d < 65536 by have := HND.out; have := HN.out; omega) (Nat.le_refl _))
              obtain ⟨j, HJ⟩ : ∃ j, Aside0 (m + d = j) := ⟨_, ⟨rfl⟩⟩
              have HJl := Aside0.mk (show j < l0.length by have := HJ.out; have := HND.out; omega)
              have hj : wrap64 ((m : Int) + (d : Int)) = (j : Int) := by rw [wrap64]; have := HJ.out; have := HJl.out; have := HN.out; omega
              have j0 : (0 : Int) ≤ (j : Int) := by omega
              have j1 : (j : Int) < (l0.length : Int) := by have := HJl.out; omega
              obtain ⟨y, HY⟩ : ∃ y, Aside0 (E l0 j = y) := ⟨_, ⟨rfl⟩⟩
              obtain ⟨ady, eY, hx0, hx1, hx2, hx3, hx4, hx5, hx6, hx7⟩ := at_ev (l := l0.drop m) HDr.out HB.out (i := d) (by rw [List.length_drop]; have := HND.out; omega) (x := y) (by rw [← HY.out, ← HJ.out]; unfold E; rw [List.getD_eq_getElem?_getD, List.getD_eq_getElem?_getD, List.getElem?_drop])
              cases eY
              have HRj := Aside0.mk (show (rowL l0 o l0.length)[j]? = some (rowF l0 o j) from rowL_get? HJl.out)
              have HI6 := Aside0.mk (show i ≤ 65536 by have := HIL.out; have := HN.out; omega)
              obtain ⟨A5, c5, e5⟩ := Kd.R_slice HR.out
              obtain ⟨n5, HN5⟩ : ∃ n5, Aside0 ((accR l0 o i ++ partR l0 o i d).length = n5) := ⟨_, ⟨rfl⟩⟩
              rw [HN5.out] at e5
              subst e5
              have HM5 := Aside0.mk (show n5 ≤ 4295032832 by rw [← HN5.out, List.length_append]; have h1 := accR_len l0 o HN.out i; have h2 := part_len l0 o i d; have h3 := HIL.out; have h4 := HN.out; have h5 := HND.out; omega)
              have HEij := Aside0.mk (show i + 1 + d = j by rw [HM.out]; exact HJ.out)
              by_cases hrb : raceB x y = true
              · have HRb := Aside0.mk hrb
                by_cases hin : inS (rowF l0 o j) i = true
                · have HIn := Aside0.mk hin
                  clear hrb hin hd
                  go_wp2_with (first
                  | ((with_reducible refine gate_dst (N := 14) rfl ?_); refine box_event ?hg (N := 14) ?hd (cs := zE) (t := 36) ?hr ?_; (case hd => rfl); (case hg => rfl); (case hr => first | (go_simp; done) | (go_simp; rfl)); intro bm hbm w7 hbox hb; have HB7 := Aside0.mk hb; have BK7 := Aside0.mk hbox; have HBM := Aside0.mk (show wr.heap.size ≤ bm by omega); clear hb hbox hbm hx0 hx1 hx2 hx3 hx4 hx5 hx6 hx7)
                  | ((with_reducible refine gate_store (t := 36) (p := 14) (v := .tmp 43) rfl ?_); refine step_store rfl rfl rfl BK7.out rfl (u := .agg (cE y)) (seg := (cE y).toList) rfl rfl (by kernel_rfl) (by simp [Value.oneCell']) (Nat.le_refl 8) (cur' := cE y) rfl ?_; intro w8 hb8 hg8 hs8; have HB8 := Aside0.mk (below_mput HB7.out hg8 (show wr.heap.size ≤ bm by have := HBM.out; omega) HB7.out.size); have BY8 := Aside0.mk hb8; have BX8 := Aside0.mk (blk_below BX.out HB8.out); have z0 : w8.cell? ⟨bl, 0, none⟩ = some (.int .u64 x.f0) := (blk_cell BX8.out 0).trans rfl; have z1 : w8.cell? ⟨bl, 1, none⟩ = some (.int .i64 x.f1) := (blk_cell BX8.out 1).trans rfl; have z2 : w8.cell? ⟨bl, 2, none⟩ = some (.int .i64 x.f2.f0) := (blk_cell BX8.out 2).trans rfl; have z3 : w8.cell? ⟨bl, 3, none⟩ = some (.int .i64 x.f2.f1) := (blk_cell BX8.out 3).trans rfl; have z4 : w8.cell? ⟨bl, 4, none⟩ = some (.int .i64 x.f3) := (blk_cell BX8.out 4).trans rfl; have z5 : w8.cell? ⟨bl, 5, none⟩ = some (.int .i64 x.f4) := (blk_cell BX8.out 5).trans rfl; have z6 : w8.cell? ⟨bl, 6, none⟩ = some (.int .i64 x.f5) := (blk_cell BX8.out 6).trans rfl; have z7 : w8.cell? ⟨bl, 7, none⟩ = some (.int .i64 x.f6) := (blk_cell BX8.out 7).trans rfl; have y0 : w8.cell? ⟨bm, 0, none⟩ = some (.int .u64 y.f0) := (blk_cell BY8.out 0).trans rfl; have y1 : w8.cell? ⟨bm, 1, none⟩ = some (.int .i64 y.f1) := (blk_cell BY8.out 1).trans rfl; have y2 : w8.cell? ⟨bm, 2, none⟩ = some (.int .i64 y.f2.f0) := (blk_cell BY8.out 2).trans rfl; have y3 : w8.cell? ⟨bm, 3, none⟩ = some (.int .i64 y.f2.f1) := (blk_cell BY8.out 3).trans rfl; have y4 : w8.cell? ⟨bm, 4, none⟩ = some (.int .i64 y.f3) := (blk_cell BY8.out 4).trans rfl; have y5 : w8.cell? ⟨bm, 5, none⟩ = some (.int .i64 y.f4) := (blk_cell BY8.out 5).trans rfl; have y6 : w8.cell? ⟨bm, 6, none⟩ = some (.int .i64 y.f5) := (blk_cell BY8.out 6).trans rfl; have y7 : w8.cell? ⟨bm, 7, none⟩ = some (.int .i64 y.f6) := (blk_cell BY8.out 7).trans rfl; clear hb8 hg8 hs8 BK7 HB7)
                  | (go_at_call 46; (refine (order_race.calls x.f0 x.f1 x.f2.f0 x.f2.f1 x.f3 x.f4 x.f5 x.f6 y.f0 y.f1 y.f2.f0 y.f2.f1 y.f3 y.f4 y.f5 y.f6 true w8 (by { rw [race_eq, HRb.out] })).mono ?_); rintro e w9 ⟨rfl, hb9⟩; have HB9 := Aside0.mk (below_step HB8.out hb9); have BX9 := Aside0.mk (blk_below BX8.out hb9); clear hb9 z0 z1 z2 z3 z4 z5 z6 z7 y0 y1 y2 y3 y4 y5 y6 y7; obtain ⟨ads, Br, cr, eA, srow, hcr, hCr⟩ := at_set (Kd.S_reads' HS.out).2.2 HB9.out HRj.out; cases eA; have HCr := Aside0.mk hCr; clear hCr)
                  | (go_at_call 32; (refine (order_in.calls Br cr (rowF l0 o j) (i : Int) (inS (rowF l0 o j) i) w9 HCr.out hcr (in_eq (row_in HFw.out j).2.1 HI6.out)).mono ?_); rintro e w10 ⟨rfl, ⟨nq, rfl⟩⟩; have HBa := Aside0.mk (HB9.out.trans (below_up (pw_below_drewN (Below.refl _ _) nq) HB9.out.size)); have BXa := Aside0.mk (blk_below BX9.out (pw_below_drewN (Below.refl w9.heap.size w9) nq)); clear srow; generalize w9.drewN nq = wa at *; rw [HIn.out]))
                  go_roundw
                  case rel => exact ⟨d + 1, by rw [HWd.out], ⟨HDn.out⟩, ⟨below_step HB.out HBa.out⟩, BXa, ⟨Kd.S_below HS.out HBa.out⟩, ⟨by rw [part_no (.inr (by rw [HEij.out]; exact HIn.out))]; exact Kd.R_below HR.out HBa.out⟩⟩
                  case measure => exact meas_lt HDn.out HWd.out
                · have HIn := Aside0.mk (show inS (rowF l0 o j) i = false by simpa using hin)
                  clear hrb hin hd
                  go_wp2_with (first
                  | ((with_reducible refine gate_dst (N := 14) rfl ?_); refine box_event ?hg (N := 14) ?hd (cs := zE) (t := 36) ?hr ?_; (case hd => rfl); (case hg => rfl); (case hr => first | (go_simp; done) | (go_simp; rfl)); intro bm hbm w7 hbox hb; have HB7 := Aside0.mk hb; have BK7 := Aside0.mk hbox; have HBM := Aside0.mk (show wr.heap.size ≤ bm by omega); clear hb hbox hbm hx0 hx1 hx2 hx3 hx4 hx5 hx6 hx7)
                  | ((with_reducible refine gate_store (t := 36) (p := 14) (v := .tmp 43) rfl ?_); refine step_store rfl rfl rfl BK7.out rfl (u := .agg (cE y)) (seg := (cE y).toList) rfl rfl (by kernel_rfl) (by simp [Value.oneCell']) (Nat.le_refl 8) (cur' := cE y) rfl ?_; intro w8 hb8 hg8 hs8; have HB8 := Aside0.mk (below_mput HB7.out hg8 (show wr.heap.size ≤ bm by have := HBM.out; omega) HB7.out.size); have BY8 := Aside0.mk hb8; have BX8 := Aside0.mk (blk_below BX.out HB8.out); have z0 : w8.cell? ⟨bl, 0, none⟩ = some (.int .u64 x.f0) := (blk_cell BX8.out 0).trans rfl; have z1 : w8.cell? ⟨bl, 1, none⟩ = some (.int .i64 x.f1) := (blk_cell BX8.out 1).trans rfl; have z2 : w8.cell? ⟨bl, 2, none⟩ = some (.int .i64 x.f2.f0) := (blk_cell BX8.out 2).trans rfl; have z3 : w8.cell? ⟨bl, 3, none⟩ = some (.int .i64 x.f2.f1) := (blk_cell BX8.out 3).trans rfl; have z4 : w8.cell? ⟨bl, 4, none⟩ = some (.int .i64 x.f3) := (blk_cell BX8.out 4).trans rfl; have z5 : w8.cell? ⟨bl, 5, none⟩ = some (.int .i64 x.f4) := (blk_cell BX8.out 5).trans rfl; have z6 : w8.cell? ⟨bl, 6, none⟩ = some (.int .i64 x.f5) := (blk_cell BX8.out 6).trans rfl; have z7 : w8.cell? ⟨bl, 7, none⟩ = some (.int .i64 x.f6) := (blk_cell BX8.out 7).trans rfl; have y0 : w8.cell? ⟨bm, 0, none⟩ = some (.int .u64 y.f0) := (blk_cell BY8.out 0).trans rfl; have y1 : w8.cell? ⟨bm, 1, none⟩ = some (.int .i64 y.f1) := (blk_cell BY8.out 1).trans rfl; have y2 : w8.cell? ⟨bm, 2, none⟩ = some (.int .i64 y.f2.f0) := (blk_cell BY8.out 2).trans rfl; have y3 : w8.cell? ⟨bm, 3, none⟩ = some (.int .i64 y.f2.f1) := (blk_cell BY8.out 3).trans rfl; have y4 : w8.cell? ⟨bm, 4, none⟩ = some (.int .i64 y.f3) := (blk_cell BY8.out 4).trans rfl; have y5 : w8.cell? ⟨bm, 5, none⟩ = some (.int .i64 y.f4) := (blk_cell BY8.out 5).trans rfl; have y6 : w8.cell? ⟨bm, 6, none⟩ = some (.int .i64 y.f5) := (blk_cell BY8.out 6).trans rfl; have y7 : w8.cell? ⟨bm, 7, none⟩ = some (.int .i64 y.f6) := (blk_cell BY8.out 7).trans rfl; clear hb8 hg8 hs8 BK7 HB7)
                  | (go_at_call 46; (refine (order_race.calls x.f0 x.f1 x.f2.f0 x.f2.f1 x.f3 x.f4 x.f5 x.f6 y.f0 y.f1 y.f2.f0 y.f2.f1 y.f3 y.f4 y.f5 y.f6 true w8 (by { rw [race_eq, HRb.out] })).mono ?_); rintro e w9 ⟨rfl, hb9⟩; have HB9 := Aside0.mk (below_step HB8.out hb9); have BX9 := Aside0.mk (blk_below BX8.out hb9); clear hb9 z0 z1 z2 z3 z4 z5 z6 z7 y0 y1 y2 y3 y4 y5 y6 y7; obtain ⟨ads, Br, cr, eA, srow, hcr, hCr⟩ := at_set (Kd.S_reads' HS.out).2.2 HB9.out HRj.out; cases eA; have HCr := Aside0.mk hCr; clear hCr)
                  | (go_at_call 32; (refine (order_in.calls Br cr (rowF l0 o j) (i : Int) (inS (rowF l0 o j) i) w9 HCr.out hcr (in_eq (row_in HFw.out j).2.1 HI6.out)).mono ?_); rintro e w10 ⟨rfl, ⟨nq, rfl⟩⟩; have HBa := Aside0.mk (HB9.out.trans (below_up (pw_below_drewN (Below.refl _ _) nq) HB9.out.size)); have BXa := Aside0.mk (blk_below BX9.out (pw_below_drewN (Below.refl w9.heap.size w9) nq)); clear srow; generalize w9.drewN nq = wa at *; rw [HIn.out])
                  | ((with_reducible refine gate_builtin (b := .append) (xs := #[.tmp 60, .tmp 64]) rfl ?_); at_builtin; refine Kd.R_append k50 (w0 := w) (W := wa) w.heap.size rfl (.tmp 60) (.tmp 64) 46 50 (.agg #[.int .i64 0, .int .i64 0]) 16 rfl Try.underlying46 info50 rfl (by decide) (by decide) (.slice A5 n5 c5) (accR l0 o i ++ partR l0 o i d) (⟨(i : Int), (j : Int)⟩ : S50) [.int .i64 (i : Int), .int .i64 (j : Int)] (fun _ => True) (fun _ => False) rfl rfl ?aP (fun _ hk => hk.elim) ?aF ?aO ?aB ?aS ?aL ?_; (case aP => exact k50_mkM _ _ _ (⟨(i : Int), (j : Int)⟩ : S50)); (case aF => exact fun _ _ => trivial); (case aO => exact Kd.R_below HR.out HBa.out); (case aB => exact below_step HB.out HBa.out); (case aS => exact (below_step HB.out HBa.out).size); (case aL => rw [HN5.out]; have := HM5.out; omega); intro v_ wb ho_ hb_ hg_ hat_; have HRb2 := Aside0.mk ho_; have HBb := Aside0.mk hb_; have HSb := Aside0.mk (Kd.S_over' (Kd.S_below HS.out HBa.out) (Kd.R_typed (Kd.R_below HR.out HBa.out)) (by decide) hg_); have BXb := Aside0.mk (blk_grown BXa.out hg_ (Kd.R_ne (Kd.R_below HR.out HBa.out) BXa.out (by decide))); clear ho_ hb_ hg_ hat_))
                  go_roundw
                  case rel => exact ⟨d + 1, by rw [HWd.out], ⟨HDn.out⟩, HBb, BXb, HSb, ⟨by
                    rw [part_yes (by rw [HEij.out, HX.out, HY.out]; exact HRb.out) (by rw [HEij.out]; exact HIn.out), HEij.out, ← List.append_assoc]
                    exact HRb2.out⟩⟩
                  case measure => exact meas_lt HDn.out HWd.out
              · have HRb := Aside0.mk (show raceB x y = false by simpa using hrb)
                clear hrb hd
                go_wp2_with (first
                | ((with_reducible refine gate_dst (N := 14) rfl ?_); refine box_event ?hg (N := 14) ?hd (cs := zE) (t := 36) ?hr ?_; (case hd => rfl); (case hg => rfl); (case hr => first | (go_simp; done) | (go_simp; rfl)); intro bm hbm w7 hbox hb; have HB7 := Aside0.mk hb; have BK7 := Aside0.mk hbox; have HBM := Aside0.mk (show wr.heap.size ≤ bm by omega); clear hb hbox hbm hx0 hx1 hx2 hx3 hx4 hx5 hx6 hx7)
                | ((with_reducible refine gate_store (t := 36) (p := 14) (v := .tmp 43) rfl ?_); refine step_store rfl rfl rfl BK7.out rfl (u := .agg (cE y)) (seg := (cE y).toList) rfl rfl (by kernel_rfl) (by simp [Value.oneCell']) (Nat.le_refl 8) (cur' := cE y) rfl ?_; intro w8 hb8 hg8 hs8; have HB8 := Aside0.mk (below_mput HB7.out hg8 (show wr.heap.size ≤ bm by have := HBM.out; omega) HB7.out.size); have BY8 := Aside0.mk hb8; have BX8 := Aside0.mk (blk_below BX.out HB8.out); have z0 : w8.cell? ⟨bl, 0, none⟩ = some (.int .u64 x.f0) := (blk_cell BX8.out 0).trans rfl; have z1 : w8.cell? ⟨bl, 1, none⟩ = some (.int .i64 x.f1) := (blk_cell BX8.out 1).trans rfl; have z2 : w8.cell? ⟨bl, 2, none⟩ = some (.int .i64 x.f2.f0) := (blk_cell BX8.out 2).trans rfl; have z3 : w8.cell? ⟨bl, 3, none⟩ = some (.int .i64 x.f2.f1) := (blk_cell BX8.out 3).trans rfl; have z4 : w8.cell? ⟨bl, 4, none⟩ = some (.int .i64 x.f3) := (blk_cell BX8.out 4).trans rfl; have z5 : w8.cell? ⟨bl, 5, none⟩ = some (.int .i64 x.f4) := (blk_cell BX8.out 5).trans rfl; have z6 : w8.cell? ⟨bl, 6, none⟩ = some (.int .i64 x.f5) := (blk_cell BX8.out 6).trans rfl; have z7 : w8.cell? ⟨bl, 7, none⟩ = some (.int .i64 x.f6) := (blk_cell BX8.out 7).trans rfl; have y0 : w8.cell? ⟨bm, 0, none⟩ = some (.int .u64 y.f0) := (blk_cell BY8.out 0).trans rfl; have y1 : w8.cell? ⟨bm, 1, none⟩ = some (.int .i64 y.f1) := (blk_cell BY8.out 1).trans rfl; have y2 : w8.cell? ⟨bm, 2, none⟩ = some (.int .i64 y.f2.f0) := (blk_cell BY8.out 2).trans rfl; have y3 : w8.cell? ⟨bm, 3, none⟩ = some (.int .i64 y.f2.f1) := (blk_cell BY8.out 3).trans rfl; have y4 : w8.cell? ⟨bm, 4, none⟩ = some (.int .i64 y.f3) := (blk_cell BY8.out 4).trans rfl; have y5 : w8.cell? ⟨bm, 5, none⟩ = some (.int .i64 y.f4) := (blk_cell BY8.out 5).trans rfl; have y6 : w8.cell? ⟨bm, 6, none⟩ = some (.int .i64 y.f5) := (blk_cell BY8.out 6).trans rfl; have y7 : w8.cell? ⟨bm, 7, none⟩ = some (.int .i64 y.f6) := (blk_cell BY8.out 7).trans rfl; clear hb8 hg8 hs8 BK7 HB7)
                | (go_at_call 46; (refine (order_race.calls x.f0 x.f1 x.f2.f0 x.f2.f1 x.f3 x.f4 x.f5 x.f6 y.f0 y.f1 y.f2.f0 y.f2.f1 y.f3 y.f4 y.f5 y.f6 false w8 (by { rw [race_eq, HRb.out] })).mono ?_); rintro e w9 ⟨rfl, hb9⟩; have HB9 := Aside0.mk (below_step HB8.out hb9); have BX9 := Aside0.mk (blk_below BX8.out hb9); clear hb9 z0 z1 z2 z3 z4 z5 z6 z7 y0 y1 y2 y3 y4 y5 y6 y7))
                go_roundw
                case rel => exact ⟨d + 1, by rw [HWd.out], ⟨HDn.out⟩, ⟨below_step HB.out HB9.out⟩, BX9, ⟨Kd.S_below HS.out HB9.out⟩, ⟨by rw [part_no (.inl (by rw [HEij.out, HX.out, HY.out]; exact HRb.out))]; exact Kd.R_below HR.out HB9.out⟩⟩
                case measure => exact meas_lt HDn.out HWd.out
            · have hde : d = nd := by have := HD.out; omega
              subst hde
              go_wp2
              go_roundw
              case rel => exact ⟨i + 1, by first | rw [HW.out] | rw [HM.out], ⟨HIL.out⟩, HB, HS, ⟨by
                have e : accR l0 o (i + 1) = accR l0 o i ++ partR l0 o i d := by
                  conv => lhs; unfold accR
                  rw [HM.out, HND.out]
                rw [e]; exact HR.out⟩⟩
              case measure => exact meas_lt (Int.ofNat_lt.1 HLT.out) HW.out
      · have hi : i = l0.length := by have := HI.out; omega
        subst hi
        go_wp2
        go_ret3
        exact ⟨_, rfl, HR.out, HB.out⟩
  · have hse : (a1, a2, a3) = (([] : List (List Int)), (arrowsF l0 l1).2.1, errF l0 l1) := by rw [← ha]; unfold setsF; rw [if_neg (show ¬ (arrowsF l0 l1).2.2 = 0 from he)]; rfl
    cases hse
    have hr : (r1, r2, r3) = (([] : List S50), (arrowsF l0 l1).2.1, errF l0 l1) := by rw [← h]; unfold racesF; rw [if_neg he]
    cases hr
    obtain ⟨z2, hz2⟩ : ∃ z, (arrowsF l0 l1).2.1 = z := ⟨_, rfl⟩
    obtain ⟨z3, hz3⟩ : ∃ z, errF l0 l1 = z := ⟨_, rfl⟩
    have hb3 : (z3 != 0) = true := by rw [← hz3]; simpa using he
    rw [hz2, hz3] at HSet ⊢
    clear he
    clear hr0 hc0 hr1 hc1 h ha hz2 hz3
    go_enter Try.func24, Try.ntmps24
    go_wp2_with (go_at_call 31; (refine HSet.out.mono ?_); rintro e w1 ⟨va, rfl, ho, hb⟩; have HB1 := Aside0.mk hb; clear ho hb)
    go_ret3
    exact ⟨_, rfl, Kd.R_nil _ _ _ _ _, HB1.out⟩
end Go.Proofs.Ytkbfijkohngjjaa.QOrder

/- Stop's closure, and slices.IndexFunc with it. Conditions: each theorem's own. -/
import Derived.Test.YtceopcfmhidjlaaTsl
set_option linter.unusedVariables false
set_option linter.unusedSimpArgs false
namespace Go.Proofs.Ytceopcfmhidjlaa.PTimerPlays
open Go.RowKit Go.Proofs.Ytceopcfmhidjlaa.Ef Go.Proofs.Ytceopcfmhidjlaa.Mp Go.Proofs.Ytceopcfmhidjlaa.Hp Go.Proofs.YtceopcfmhidjlaaW.PrintWords Go.Proofs.YtceopcfmhidjlaaW.PrintLast Go.Proofs.YtceopcfmhidjlaaW.PrintMore

abbrev tn (l : List Tm) (i : Nat) : Tm := (l[i]?).getD default
theorem at_rowT {w : World} {e base g n cap : Nat} {ok : Nat → Prop} {xs : List Tm} (h : kT.R e w base ok (.slice (some ⟨g, 0, none⟩) n cap) xs) (i : Nat) (hi : i < n) :
    w.cell? ⟨g, i * 8, none⟩ = some (.int .i64 (tn xs i).f0) ∧ w.cell? ⟨g, i * 8 + 1, none⟩ = some (.int .i64 (tn xs i).f1) ∧ w.cell? ⟨g, i * 8 + 2, none⟩ = some (.int .i64 (tn xs i).f2.f0) ∧ w.cell? ⟨g, i * 8 + 3, none⟩ = some (.int .i64 (tn xs i).f2.f1) ∧ w.cell? ⟨g, i * 8 + 4, none⟩ = some (.int .i64 (tn xs i).f3) ∧ w.cell? ⟨g, i * 8 + 5, none⟩ = some (.int .u64 (tn xs i).f4) ∧ w.cell? ⟨g, i * 8 + 6, none⟩ = some (.bool (tn xs i).f5) ∧ w.cell? ⟨g, i * 8 + 7, none⟩ = some (.int .u64 (tn xs i).f6) := by
  obtain ⟨c, hcl, hM, hc0, _⟩ := Kd.R_elem h default (i : Int) (Int.natCast_nonneg i) (by omega)
  obtain rfl := k40_openM hM
  rw [Int.toNat_natCast] at hc0
  have e : ∀ j, i * kT.sz + j = i * 8 + j := fun j => rfl
  exact ⟨hc0 0 _ rfl, hc0 1 _ rfl, hc0 2 _ rfl, hc0 3 _ rfl, hc0 4 _ rfl, hc0 5 _ rfl, hc0 6 _ rfl, hc0 7 _ rfl⟩
set_option maxHeartbeats 1000000 in
set_option maxRecDepth 100000 in
theorem stop1_calls (x : Tm) (g : Nat) (id : Int) (w : World) (h : w.cell? ⟨g, 0, none⟩ = some (.int .i64 id)) :
    Calls Try.prog 29 #[.agg (cT x), .pointer (some ⟨g, 0, none⟩)] w fun e w' => e = .returned (.bool (x.f0 == id)) ∧ Below w.heap.size w w' := by
  have hlt := World.block_lt_of_cell? w _ h
  go_enter Try.func29, Try.ntmps29
  go_wp2_with ((with_reducible refine gate_dst (N := 2) rfl ?_); refine box_event ?hg (N := 2) ?hd (cs := cT x) (t := 40) ?hr ?_; (case hd => rfl); (case hg => rfl); (case hr => first | (go_simp; done) | (go_simp; rfl)); intro g2 hg2 w1 hbox hb; have HB := Aside0.mk hb; have x0 : w1.cell? ⟨g2, 0, none⟩ = some (.int .i64 x.f0) := (blk_cell hbox 0).trans rfl; have y0 : w1.cell? ⟨g, 0, none⟩ = some (.int .i64 id) := (hb.cell (p := ⟨g, 0, none⟩) hlt).trans h; clear hb hbox hg2 h)
  go_ret
  exact ⟨rfl, HB.out⟩
abbrev fnV (g3 : Nat) : Value := .func (.func 29) #[] #[.pointer (some ⟨g3, 0, none⟩)]
set_option maxHeartbeats 4000000 in
set_option maxRecDepth 100000 in
theorem index_calls (base g n cap g3 : Nat) (ok : Nat → Prop) (l : List Tm) (id : Int) (i0 : Nat) (w : World) (H : kT.R 40 w base ok (.slice (some ⟨g, 0, none⟩) n cap) l) (hid : w.cell? ⟨g3, 0, none⟩ = some (.int .i64 id)) (hn : n ≤ 1000000000000000000) (hi : i0 < n) (he : (tn l i0).f0 = id) (hb : ∀ j, j < i0 → (tn l j).f0 ≠ id) :
    Calls Try.prog 44 #[.slice (some ⟨g, 0, none⟩) n cap, fnV g3] w fun e w' => e = .returned (.int .i64 (i0 : Int)) ∧ Below w.heap.size w w' := by
  have hu37 := Try.underlying37
  have HR := Aside0.mk H
  have HX := Aside0.mk hid
  have HB := Aside0.mk (Below.refl w.heap.size w)
  have HE := Aside0.mk he
  have HN := Aside0.mk hb
  have hlt := World.block_lt_of_cell? w _ hid
  clear H hid he hb
  go_enter Try.func44, Try.ntmps44
  go_wp2
  go_loopw [5, 8] (fun v5 v8 wr => ∃ i : Nat, v8 = .int .i64 (i : Int) ∧ Aside0 (i ≤ i0) ∧ Aside0 (Below w.heap.size w wr)) (fun _ v8 _ => (i0 + 1 - (intOf v8).toNat))
  case atStart => exact ⟨0, rfl, ⟨Nat.zero_le _⟩, HB⟩
  case round =>
    obtain ⟨i, rfl, HI, HB1⟩ := hrel
    have hin : i < n := by have := HI.out; omega
    have hin' : (i : Int) < (n : Int) := by omega
    have hin0 : (0 : Int) ≤ (i : Int) := by omega
    obtain ⟨x, ex⟩ : ∃ x, tn l i = x := ⟨_, rfl⟩
    obtain ⟨hx0, hx1, hx2, hx3, hx4, hx5, hx6, hx7⟩ := at_rowT (Kd.R_below HR.out HB1.out) i hin
    rw [ex] at hx0 hx1 hx2 hx3 hx4 hx5 hx6 hx7
    have y0 : wr.cell? ⟨g3, 0, none⟩ = some (.int .i64 id) := (HB1.out.cell (p := ⟨g3, 0, none⟩) hlt).trans HX.out
    by_cases hlast : i = i0
    · have hq : (x.f0 == id) = true := by rw [← ex, hlast, HE.out]; simp
      have HL := Aside0.mk hlast
      clear hlast ex
      go_wp2_with (go_at_call 29; (refine (stop1_calls x g3 id _ y0).mono ?_); rw [hq]; rintro e w2 ⟨rfl, hb⟩; have HB2 := Aside0.mk (HB1.out.trans (below_up hb HB1.out.size)); clear hb hx0 hx1 hx2 hx3 hx4 hx5 hx6 hx7 y0)
      go_ret
      exact ⟨by rw [HL.out]; rfl, HB2.out⟩
    · have hq : (x.f0 == id) = false := by
        have := HN.out i (by have := HI.out; omega)
        rw [ex] at this
        simpa using this
      go_wp2_with (go_at_call 29; (refine (stop1_calls x g3 id _ y0).mono ?_); rw [hq]; rintro e w2 ⟨rfl, hb⟩; have HB2 := Aside0.mk (HB1.out.trans (below_up hb HB1.out.size)); clear hb hx0 hx1 hx2 hx3 hx4 hx5 hx6 hx7 y0)
      go_roundw
      case rel => exact ⟨i + 1, by go_num, ⟨by have := HI.out; omega⟩, HB2⟩
      case measure => simp [intOf]; have := HI.out; omega
end Go.Proofs.Ytceopcfmhidjlaa.PTimerPlays

/- proper.In: the function of a word. Conditions: none. -/
import Derived.Test.YtdlikjfffdpmiaaQProperx0
import Derived.Test.YtdlikjfffdpmiaaQProperx11
set_option linter.unusedVariables false
set_option linter.unusedSimpArgs false
namespace Go.Proofs.Ytdlikjfffdpmiaa.QProper
open Go.RowKit Go.Proofs.YtdlikjfffdpmiaaW.PrintWords Go.Proofs.YtdlikjfffdpmiaaW.PrintLast Go.Proofs.YtdlikjfffdpmiaaW.PrintMore

def inF (at_ : Int) (f : S34) : Bool := decide (f.f0 ≤ at_) && decide (at_ < f.f1)
def firstIn (at_ : Int) (l : List S34) : Int := match l.findIdx? (inF at_) with | some i => i | none => -1
def proper_In.f (k : Nat) (l0_0 : List Int) (l0_1 : List S34) (l0_2 : List S58) (a1 : Int) : Option (Int × Int) :=
  (proper_Check.f k l0_0 l0_1 l0_2).bind fun b => if b.2 = 0 then (if firstIn a1 l0_1 < 0 then some (0, 1) else some (firstIn a1 l0_1, 0)) else some (0, b.2)
theorem proper_In.mono : ∀ a0 a1 a2 a3 k, LeO (proper_In.f k a0 a1 a2 a3) (proper_In.f (k + 1) a0 a1 a2 a3) := by
  intro a0 a1 a2 a3 k
  unfold proper_In.f
  exact LeO.bind (proper_Check.mono _ _ _ _) (fun _ => LeO.refl _)

theorem rd34 (l : List S34) (i : Nat) (hi : i < l.length) : l[i] = rd_T34 l i := by unfold rd_T34; rw [List.getD_eq_getElem?_getD, Int.toNat_natCast, List.getElem?_eq_getElem hi]; rfl
theorem firstIn_no (a : Int) (l : List S34) (h : ∀ j (hj : j < l.length), inF a l[j] = false) : firstIn a l = -1 := by
  have : l.findIdx? (inF a) = none := by
    rw [List.findIdx?_eq_none_iff]
    intro x hx
    obtain ⟨j, hj, rfl⟩ := List.getElem_of_mem hx
    exact h j hj
  simp [firstIn, this]
theorem firstIn_yes (a : Int) (l : List S34) (i : Nat) (hi : i < l.length) (hp : inF a l[i] = true) (h : ∀ j (hj : j < l.length), j < i → inF a l[j] = false) : firstIn a l = i := by
  have : l.findIdx? (inF a) = some i := by
    rw [List.findIdx?_eq_some_iff_getElem]
    exact ⟨hi, hp, fun j hj => by simpa using h j (by omega) hj⟩
  simp [firstIn, this]
def NoneIn (a : Int) (l : List S34) (x : Int) : Prop := ∀ j : Int, 0 ≤ j → j < x → inF a (rd_T34 l j) = false
theorem NoneIn.succ {a : Int} {l : List S34} {x : Int} (h : NoneIn a l x) (hx : inF a (rd_T34 l x) = false) : NoneIn a l (x + 1) := by
  intro j h0 h1
  by_cases e : j = x
  · subst e; exact hx
  · exact h j h0 (by omega)

set_option maxHeartbeats 1000000 in
theorem in1_calls (s : S34) (a : Int) (g : Nat) (w : World) (hv : w.heap[g]? = some (.cells #[.int .i64 a] 3 (0, 0))) :
    Calls Try.prog 36 #[.agg #[.int .i64 s.f0, .int .i64 s.f1], .pointer (some ⟨g, 0, none⟩)] w fun e w' => e = .returned (.bool (inF a s)) ∧ Below w.heap.size w w' := by
  have hlt : g < w.heap.size := blk_lt hv
  have hc0 : w.cell? ⟨g, 0, none⟩ = some (.int .i64 a) := (blk_cell hv 0).trans rfl
  have hne : ¬ g = w.heap.size := by omega
  unfold inF
  by_cases h0 : s.f0 ≤ a
  · have b0 : decide (s.f0 ≤ a) = true := decide_eq_true h0
    rw [b0, Bool.true_and]
    go_enter Try.func36, Try.ntmps36
    go_wp2
    go_ret
    exact ⟨by first | rfl | (simp; done) | (simp [*]; done), by repeat (first | exact Below.refl _ _ | apply below_alloc | apply pw_below_drewN | apply below_drew1)⟩
  · have b0 : decide (s.f0 ≤ a) = false := decide_eq_false h0
    rw [b0, Bool.false_and]
    go_enter Try.func36, Try.ntmps36
    go_wp2
    go_ret
    exact ⟨by first | rfl | (simp; done) | (simp [*]; done), by repeat (first | exact Below.refl _ _ | apply below_alloc | apply pw_below_drewN | apply below_drew1)⟩

set_option maxHeartbeats 1000000 in
set_option maxRecDepth 100000 in
theorem firstIn_calls (A : Option Addr) (c : Nat) (l : List S34) (a : Int) (g : Nat) (w : World) (hr : Kd.C k34 w A l.length l) (hc : l.length ≤ c) (hv : w.heap[g]? = some (.cells #[.int .i64 a] 3 (0, 0))) :
    Calls Try.prog 35 #[.slice A l.length c, .func (.func 36) #[] #[.pointer (some ⟨g, 0, none⟩)]] w fun e w' => e = .returned (.int .i64 (firstIn a l)) ∧ Below w.heap.size w w' := by
  have hu23 := Try.underlying23
  have hu34 := Try.underlying34
  have HR := Aside0.mk hr
  have HV := Aside0.mk hv
  clear hr hv
  have hm0 : (l.length : Int) ≤ 9223372036854775807 := by have := HR.out.2.1; omega
  go_enter Try.func35, Try.ntmps35
  go_wp2
  go_loopw [8] (fun v8 wr => ∃ x : Int, v8 = .int .i64 x ∧ Aside0 (0 ≤ x ∧ x ≤ l.length) ∧ Aside0 (NoneIn a l x) ∧ Aside0 (Below w.heap.size w wr)) (fun v8 _ => l.length - (intOf v8).toNat)
  case atStart => exact ⟨0, rfl, ⟨by omega⟩, ⟨fun j h0 h1 => by omega⟩, ⟨Below.refl _ _⟩⟩
  case round =>
    obtain ⟨x, rfl, HX, HN, HB⟩ := hrel
    by_cases hlt : x < (l.length : Int)
    · have p0 : 0 ≤ x := HX.out.1
      obtain ⟨ad, e1, hx0, hx1⟩ := at_T34 HR.out x p0 hlt
      cases e1
      replace hx0 := (HB.out.cell (World.block_lt_of_cell? w _ hx0)).trans hx0
      replace hx1 := (HB.out.cell (World.block_lt_of_cell? w _ hx1)).trans hx1
      have hcall := in1_calls (rd_T34 l x) a g wr (blk_below HV.out HB.out)
      rcases hp : inF a (rd_T34 l x) with _ | _
      · rw [hp] at hcall
        go_wp2_with fail
        refine hcall.mono ?_
        rintro e w1 ⟨rfl, hb⟩
        have HB1 := Aside0.mk (below_step HB.out hb)
        clear hb HB
        go_wp2
        go_roundw
        case rel => exact ⟨x + 1, rfl, ⟨by omega⟩, ⟨HN.out.succ hp⟩, HB1⟩
        case measure => simp [intOf]; omega
      · rw [hp] at hcall
        go_wp2_with fail
        refine hcall.mono ?_
        rintro e w1 ⟨rfl, hb⟩
        have HB1 := Aside0.mk (below_step HB.out hb)
        clear hb HB
        go_wp2
        go_ret
        refine ⟨?_, HB1.out⟩
        have hx : x.toNat < l.length := by omega
        have hi : ((x.toNat : Nat) : Int) = x := by omega
        rw [firstIn_yes a l x.toNat hx (by rw [rd34, hi]; exact hp) (fun j hj hjx => by rw [rd34]; exact HN.out j (by omega) (by omega)), hi]
        rfl
    · go_wp2
      go_ret
      refine ⟨?_, HB.out⟩
      have hx : x = l.length := by have := HX.out; omega
      rw [firstIn_no a l (fun j hj => by rw [rd34]; exact HN.out j (by omega) (by omega))]
      rfl

set_option maxHeartbeats 1000000 in
set_option maxRecDepth 100000 in
theorem proper_In.calls (k : Nat) (A0_0 : Option Addr) (c0_0 : Nat) (l0_0 : List Int) (A0_1 : Option Addr) (c0_1 : Nat) (l0_1 : List (S34)) (A0_2 : Option Addr) (c0_2 : Nat) (l0_2 : List (S58)) (a1 : Int) (r1 : Int) (r2 : Int) (w : World) (hr0_0 : Kd.C (Kd.int .u32) w A0_0 l0_0.length l0_0) (hc0_0 : l0_0.length ≤ c0_0) (hr0_1 : Kd.C k34 w A0_1 l0_1.length l0_1) (hc0_1 : l0_1.length ≤ c0_1) (hr0_2 : Kd.C k58 w A0_2 l0_2.length l0_2) (hc0_2 : l0_2.length ≤ c0_2) (h : proper_In.f k l0_0 l0_1 l0_2 a1 = some (r1, r2)) :
    Calls Try.prog 15 #[.agg #[.slice A0_0 l0_0.length c0_0, .slice A0_1 l0_1.length c0_1, .slice A0_2 l0_2.length c0_2], .int .i64 a1] w fun e w' => e = .returned (.tuple #[.int .i64 r1, .int .i64 r2]) ∧ Below w.heap.size w w' := by
  have hu26 := Try.underlying26
  obtain ⟨⟨t1, t2⟩, hk, h⟩ := Option.bind_eq_some_iff.mp h
  have HK := Aside0.mk hk
  have H := Aside0.mk h
  have HR0 := Aside0.mk hr0_0
  have HR1 := Aside0.mk hr0_1
  have HR2 := Aside0.mk hr0_2
  have HC0 := Aside0.mk hc0_0
  have HC1 := Aside0.mk hc0_1
  have HC2 := Aside0.mk hc0_2
  clear hk h hr0_0 hr0_1 hr0_2 hc0_0 hc0_1 hc0_2
  have hmf : ∀ (fn : Fn) (first cap : Array Value) (w : World), (Instr.makeFunc fn first cap).run Try.prog w = .ok (.func fn first cap) w := fun _ _ _ _ => rfl
  by_cases c : t2 = 0
  · have c0 : (t2 != 0) = false := bne_eq_false_iff_eq.mpr c
    have H' := H.out
    simp only [c, if_true] at H'
    clear H
    have HCC := Aside0.mk c
    by_cases ci : firstIn a1 l0_1 < 0
    all_goals
      first | (rw [if_pos ci] at H'; have ci0 := decide_eq_true ci) | (rw [if_neg ci] at H'; have ci0 := decide_eq_false ci)
      clear ci
      simp only [Option.some.injEq, Prod.mk.injEq] at H'
      obtain ⟨rfl, rfl⟩ := H'
      clear c
      go_enter Try.func15, Try.ntmps15
      go_wp2_with (first
        | ((with_reducible refine gate_dst (N := 2) rfl ?_); refine box_event ?hg (N := 2) ?hd (cs := #[.slice A0_0 l0_0.length c0_0, .slice A0_1 l0_1.length c0_1, .slice A0_2 l0_2.length c0_2]) (t := 26) ?hr ?_; (case hd => rfl); (case hg => rfl); (case hr => first | (go_simp; done) | (go_simp; rfl)); intro gp hgp w2 hbox hb; have HB := Aside0.mk hb; have BK := Aside0.mk hbox; clear hb hbox hgp)
        | ((with_reducible refine gate_dst (N := 3) rfl ?_); refine box_event ?hg (N := 3) ?hd (cs := #[.int .i64 a1]) (t := 3) ?hr ?_; (case hd => rfl); (case hg => rfl); (case hr => first | (go_simp; done) | (go_simp; rfl)); intro ga hga w3 hbox hb; have HB1 := Aside0.mk (below_step HB.out hb); have BK1 := Aside0.mk (blk_below BK.out hb); have BA := Aside0.mk hbox; clear hb hbox hga HB BK; have hcz0 : w3.cell? ⟨gp, 0, none⟩ = some (.slice A0_0 l0_0.length c0_0) := (blk_cell BK1.out 0).trans rfl; have hcz1 : w3.cell? ⟨gp, 1, none⟩ = some (.slice A0_1 l0_1.length c0_1) := (blk_cell BK1.out 1).trans rfl; have hcz2 : w3.cell? ⟨gp, 2, none⟩ = some (.slice A0_2 l0_2.length c0_2) := (blk_cell BK1.out 2).trans rfl)
        | (go_at_call 12; (refine (proper_Check.calls k _ _ l0_0 _ _ l0_1 _ _ l0_2 t1 t2 _ (Kd.C_below HR0.out HB1.out) HC0.out (Kd.C_below HR1.out HB1.out) HC1.out (Kd.C_below HR2.out HB1.out) HC2.out HK.out).mono ?_); rintro e w4 ⟨rfl, hb⟩; have HB2 := Aside0.mk (below_step HB1.out hb); have BK2 := Aside0.mk (blk_below BK1.out hb); have BA2 := Aside0.mk (blk_below BA.out hb); clear hb HB1 BK1 BA hcz0 hcz1 hcz2; have hcz1 : w4.cell? ⟨gp, 1, none⟩ = some (.slice A0_1 l0_1.length c0_1) := (blk_cell BK2.out 1).trans rfl)
        | (go_at_call 35; (refine (firstIn_calls _ _ l0_1 a1 ga _ (Kd.C_below HR1.out HB2.out) HC1.out BA2.out).mono ?_); rintro e w5 ⟨rfl, hb⟩; have HB3 := Aside0.mk (below_step HB2.out hb); clear hb))
      go_ret2
      exact ⟨by first | rfl | (simp; done) | (simp [*]; done), HB3.out⟩
  · have c0 : (t2 != 0) = true := bne_iff_ne.mpr c
    have H' := H.out
    simp only [c, if_false, Option.some.injEq, Prod.mk.injEq] at H'
    clear H
    obtain ⟨rfl, rfl⟩ := H'
    clear c
    go_enter Try.func15, Try.ntmps15
    go_wp2_with (first
        | ((with_reducible refine gate_dst (N := 2) rfl ?_); refine box_event ?hg (N := 2) ?hd (cs := #[.slice A0_0 l0_0.length c0_0, .slice A0_1 l0_1.length c0_1, .slice A0_2 l0_2.length c0_2]) (t := 26) ?hr ?_; (case hd => rfl); (case hg => rfl); (case hr => first | (go_simp; done) | (go_simp; rfl)); intro gp hgp w2 hbox hb; have HB := Aside0.mk hb; have BK := Aside0.mk hbox; clear hb hbox hgp)
        | ((with_reducible refine gate_dst (N := 3) rfl ?_); refine box_event ?hg (N := 3) ?hd (cs := #[.int .i64 a1]) (t := 3) ?hr ?_; (case hd => rfl); (case hg => rfl); (case hr => first | (go_simp; done) | (go_simp; rfl)); intro ga hga w3 hbox hb; have HB1 := Aside0.mk (below_step HB.out hb); have BK1 := Aside0.mk (blk_below BK.out hb); clear hb hbox hga HB BK; have hcz0 : w3.cell? ⟨gp, 0, none⟩ = some (.slice A0_0 l0_0.length c0_0) := (blk_cell BK1.out 0).trans rfl; have hcz1 : w3.cell? ⟨gp, 1, none⟩ = some (.slice A0_1 l0_1.length c0_1) := (blk_cell BK1.out 1).trans rfl; have hcz2 : w3.cell? ⟨gp, 2, none⟩ = some (.slice A0_2 l0_2.length c0_2) := (blk_cell BK1.out 2).trans rfl)
        | (go_at_call 12; (refine (proper_Check.calls k _ _ l0_0 _ _ l0_1 _ _ l0_2 t1 t2 _ (Kd.C_below HR0.out HB1.out) HC0.out (Kd.C_below HR1.out HB1.out) HC1.out (Kd.C_below HR2.out HB1.out) HC2.out HK.out).mono ?_); rintro e w4 ⟨rfl, hb⟩; have HB2 := Aside0.mk (below_step HB1.out hb); clear hb))
    go_ret2
    exact ⟨by first | rfl | (simp; done) | (simp [*]; done), HB2.out⟩
end Go.Proofs.Ytdlikjfffdpmiaa.QProper

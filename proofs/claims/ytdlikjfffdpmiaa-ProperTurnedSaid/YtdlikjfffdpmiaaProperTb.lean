/- proper.tables: the first table of cases that may not be. Conditions: none. -/
import Derived.Test.YtdlikjfffdpmiaaQProperx0
set_option linter.unusedVariables false
set_option linter.unusedSimpArgs false
namespace Go.Proofs.Ytdlikjfffdpmiaa.QProper
open Go.RowKit Go.Proofs.YtdlikjfffdpmiaaW.PrintWords Go.Proofs.YtdlikjfffdpmiaaW.PrintLast Go.Proofs.YtdlikjfffdpmiaaW.PrintMore

def reg (n : Int) : Bool := decide (0 ≤ n) && decide (n < 16)
def badCase (c : S87) : Bool := !reg c.f1 || !reg c.f2 || !reg c.f3 || (c.f0 && !(c.f3 == 0))
def badTable (t : S58) : Bool := decide (16 < (t.f0.length : Int)) || t.f0.any badCase
def firstOf {α : Type} (p : α → Bool) (l : List α) : Int := match l.findIdx? p with | some i => i | none => -1
def proper_tables.f (l0_0 : List Int) (l0_1 : List S34) (l0_2 : List S58) : Option (Int × Bool) := some (firstOf badTable l0_2, decide (firstOf badTable l0_2 < 0))

theorem reg_calls (a0 : Int) (r : Bool) (w : World) (h : reg a0 = r) :
    Calls Try.prog 58 #[.int .i64 a0] w fun e w' => e = .returned (.bool r) ∧ Drawn0 w w' := by
  unfold reg at h
  by_cases c2 : 0 ≤ a0
  · have c2b0 : decide (0 ≤ a0) = true := decide_eq_true c2
    rw [c2b0, Bool.true_and] at h
    clear c2
    subst h
    go_enter Try.func58, Try.ntmps58
    go_wp2
    go_ret
    exact ⟨by first | rfl | (simp; done) | (simp [*]; done), by repeat (first | exact Drawn0.refl _ | apply Drawn0.step)⟩
  · have c2b0 : decide (0 ≤ a0) = false := decide_eq_false c2
    rw [c2b0, Bool.false_and] at h
    clear c2
    subst h
    go_enter Try.func58, Try.ntmps58
    go_wp2
    go_ret
    exact ⟨by first | rfl | (simp; done) | (simp [*]; done), by repeat (first | exact Drawn0.refl _ | apply Drawn0.step)⟩

set_option maxHeartbeats 1000000 in
theorem case_calls (b : Bool) (x y z : Int) (w : World) :
    Calls Try.prog 57 #[.agg #[.bool b, .int .i64 x, .int .i64 y, .int .i64 z]] w fun e w' => e = .returned (.bool (badCase ⟨b, x, y, z⟩)) ∧ Below w.heap.size w w' := by
  unfold badCase
  simp only []
  rcases hx : reg x with _ | _
  · skip
    go_enter Try.func57, Try.ntmps57
    go_wp2_with (first | (go_at_call 58; (with_reducible refine (reg_calls x false _ hx).mono ?_); rintro e w1 ⟨rfl, ⟨nd, rfl⟩⟩))
    go_ret
    exact ⟨by first | rfl | (simp; done) | (simp [*]; done), by repeat (first | exact Below.refl _ _ | apply below_alloc | apply pw_below_drewN | apply below_drew1)⟩
  rcases hy : reg y with _ | _
  · skip
    go_enter Try.func57, Try.ntmps57
    go_wp2_with (first | (go_at_call 58; (with_reducible refine (reg_calls x true _ hx).mono ?_); rintro e w1 ⟨rfl, ⟨nd, rfl⟩⟩) | (go_at_call 58; (with_reducible refine (reg_calls y false _ hy).mono ?_); rintro e w1 ⟨rfl, ⟨nd, rfl⟩⟩))
    go_ret
    exact ⟨by first | rfl | (simp; done) | (simp [*]; done), by repeat (first | exact Below.refl _ _ | apply below_alloc | apply pw_below_drewN | apply below_drew1)⟩
  rcases hz : reg z with _ | _
  · skip
    go_enter Try.func57, Try.ntmps57
    go_wp2_with (first | (go_at_call 58; (with_reducible refine (reg_calls x true _ hx).mono ?_); rintro e w1 ⟨rfl, ⟨nd, rfl⟩⟩) | (go_at_call 58; (with_reducible refine (reg_calls y true _ hy).mono ?_); rintro e w1 ⟨rfl, ⟨nd, rfl⟩⟩) | (go_at_call 58; (with_reducible refine (reg_calls z false _ hz).mono ?_); rintro e w1 ⟨rfl, ⟨nd, rfl⟩⟩))
    go_ret
    exact ⟨by first | rfl | (simp; done) | (simp [*]; done), by repeat (first | exact Below.refl _ _ | apply below_alloc | apply pw_below_drewN | apply below_drew1)⟩
  rcases b with _ | _
  · skip
    go_enter Try.func57, Try.ntmps57
    go_wp2_with (first | (go_at_call 58; (with_reducible refine (reg_calls x true _ hx).mono ?_); rintro e w1 ⟨rfl, ⟨nd, rfl⟩⟩) | (go_at_call 58; (with_reducible refine (reg_calls y true _ hy).mono ?_); rintro e w1 ⟨rfl, ⟨nd, rfl⟩⟩) | (go_at_call 58; (with_reducible refine (reg_calls z true _ hz).mono ?_); rintro e w1 ⟨rfl, ⟨nd, rfl⟩⟩))
    go_ret
    exact ⟨by first | rfl | (simp; done) | (simp [*]; done), by repeat (first | exact Below.refl _ _ | apply below_alloc | apply pw_below_drewN | apply below_drew1)⟩
  by_cases h0 : z = 0
  · subst h0
    have hb0 : ((0 : Int) == 0) = true := rfl
    rw [hb0]
    go_enter Try.func57, Try.ntmps57
    go_wp2_with (first | (go_at_call 58; (with_reducible refine (reg_calls x true _ hx).mono ?_); rintro e w1 ⟨rfl, ⟨nd, rfl⟩⟩) | (go_at_call 58; (with_reducible refine (reg_calls y true _ hy).mono ?_); rintro e w1 ⟨rfl, ⟨nd, rfl⟩⟩) | (go_at_call 58; (with_reducible refine (reg_calls 0 true _ hz).mono ?_); rintro e w1 ⟨rfl, ⟨nd, rfl⟩⟩))
    go_ret
    exact ⟨by first | rfl | (simp; done) | (simp [*]; done), by repeat (first | exact Below.refl _ _ | apply below_alloc | apply pw_below_drewN | apply below_drew1)⟩
  · have h1 : (z == 0) = false := beq_eq_false_iff_ne.mpr h0
    rw [h1]
    go_enter Try.func57, Try.ntmps57
    go_wp2_with (first | (go_at_call 58; (with_reducible refine (reg_calls x true _ hx).mono ?_); rintro e w1 ⟨rfl, ⟨nd, rfl⟩⟩) | (go_at_call 58; (with_reducible refine (reg_calls y true _ hy).mono ?_); rintro e w1 ⟨rfl, ⟨nd, rfl⟩⟩) | (go_at_call 58; (with_reducible refine (reg_calls z true _ hz).mono ?_); rintro e w1 ⟨rfl, ⟨nd, rfl⟩⟩))
    go_ret
    exact ⟨by first | rfl | (simp; done) | (simp [*]; done), by repeat (first | exact Below.refl _ _ | apply below_alloc | apply pw_below_drewN | apply below_drew1)⟩

theorem first_no {α : Type} (p : α → Bool) (l : List α) (h : ∀ j (hj : j < l.length), p l[j] = false) : firstOf p l = -1 := by
  have : l.findIdx? p = none := by
    rw [List.findIdx?_eq_none_iff]
    intro x hx
    obtain ⟨j, hj, rfl⟩ := List.getElem_of_mem hx
    exact h j hj
  simp [firstOf, this]
theorem first_yes {α : Type} (p : α → Bool) (l : List α) (i : Nat) (hi : i < l.length) (hp : p l[i] = true) (h : ∀ j (hj : j < l.length), j < i → p l[j] = false) : firstOf p l = i := by
  have : l.findIdx? p = some i := by
    rw [List.findIdx?_eq_some_iff_getElem]
    exact ⟨hi, hp, fun j hj => by simpa using h j (by omega) hj⟩
  simp [firstOf, this]
theorem rd87 (l : List S87) (i : Nat) (hi : i < l.length) : l[i] = rd_T87 l i := by unfold rd_T87; rw [List.getD_eq_getElem?_getD, Int.toNat_natCast, List.getElem?_eq_getElem hi]; rfl
theorem rd58 (l : List S58) (i : Nat) (hi : i < l.length) : l[i] = rd_T58 l i := by unfold rd_T58; rw [List.getD_eq_getElem?_getD, Int.toNat_natCast, List.getElem?_eq_getElem hi]; rfl
/-- None of the first x does. -/
def NoneOf {α : Type} (p : α → Bool) (rd : Int → α) (x : Int) : Prop := ∀ j : Int, 0 ≤ j → j < x → p (rd j) = false
theorem NoneOf.succ {α : Type} {p : α → Bool} {rd : Int → α} {x : Int} (h : NoneOf p rd x) (hx : p (rd x) = false) : NoneOf p rd (x + 1) := by
  intro j h0 h1
  by_cases e : j = x
  · subst e; exact hx
  · exact h j h0 (by omega)

set_option maxHeartbeats 1000000 in
set_option maxRecDepth 100000 in
theorem firstCase_calls (A : Option Addr) (c : Nat) (l : List S87) (w : World) (hr : Kd.C k87 w A l.length l) (hc : l.length ≤ c) :
    Calls Try.prog 70 #[.slice A l.length c, .func (.func 57) #[] #[]] w fun e w' => e = .returned (.int .i64 (firstOf badCase l)) ∧ Below w.heap.size w w' := by
  have hu56 := Try.underlying56
  have hu87 := Try.underlying87
  have HR := Aside0.mk hr
  clear hr
  have hm0 : (l.length : Int) ≤ 9223372036854775807 := by have := HR.out.2.1; omega
  go_enter Try.func70, Try.ntmps70
  go_wp2
  go_loopw [8] (fun v8 wr => ∃ x : Int, v8 = .int .i64 x ∧ Aside0 (0 ≤ x ∧ x ≤ l.length) ∧ Aside0 (NoneOf badCase (rd_T87 l) x) ∧ Aside0 (Below w.heap.size w wr)) (fun v8 _ => l.length - (intOf v8).toNat)
  case atStart => exact ⟨0, rfl, ⟨by omega⟩, ⟨fun j h0 h1 => by omega⟩, ⟨Below.refl _ _⟩⟩
  case round =>
    obtain ⟨x, rfl, HX, HN, HB⟩ := hrel
    by_cases hlt : x < (l.length : Int)
    · have p0 : 0 ≤ x := HX.out.1
      obtain ⟨ad, e1, hx0, hx1, hx2, hx3⟩ := at_T87 HR.out x p0 hlt
      cases e1
      replace hx0 := (HB.out.cell (World.block_lt_of_cell? w _ hx0)).trans hx0
      replace hx1 := (HB.out.cell (World.block_lt_of_cell? w _ hx1)).trans hx1
      replace hx2 := (HB.out.cell (World.block_lt_of_cell? w _ hx2)).trans hx2
      replace hx3 := (HB.out.cell (World.block_lt_of_cell? w _ hx3)).trans hx3
      have hcall := case_calls (rd_T87 l x).f0 (rd_T87 l x).f1 (rd_T87 l x).f2 (rd_T87 l x).f3 wr
      change Calls _ _ _ _ (fun e w' => e = .returned (.bool (badCase (rd_T87 l x))) ∧ Below wr.heap.size wr w') at hcall
      rcases hp : badCase (rd_T87 l x) with _ | _
      · rw [hp] at hcall
        go_wp2_with fail
        refine hcall.mono ?_
        rintro e w1 ⟨rfl, hb⟩
        have HB1 := Aside0.mk (below_step HB.out hb)
        clear hb HB
        go_wp2
        go_roundw
        case rel => exact ⟨x + 1, rfl, ⟨by omega⟩, ⟨HN.out.succ hp⟩, HB1⟩
        case measure => simp [intOf]; omega
      · rw [hp] at hcall
        go_wp2_with fail
        refine hcall.mono ?_
        rintro e w1 ⟨rfl, hb⟩
        have HB1 := Aside0.mk (below_step HB.out hb)
        clear hb HB
        go_wp2
        go_ret
        refine ⟨?_, HB1.out⟩
        have hx : x.toNat < l.length := by omega
        have hi : ((x.toNat : Nat) : Int) = x := by omega
        rw [first_yes badCase l x.toNat hx (by rw [rd87, hi]; exact hp) (fun j hj hjx => by rw [rd87]; exact HN.out j (by omega) (by omega)), hi]
        rfl
    · go_wp2
      go_ret
      refine ⟨?_, HB.out⟩
      have hx : x = l.length := by have := HX.out; omega
      rw [first_no badCase l (fun j hj => by rw [rd87]; exact HN.out j (by omega) (by omega))]
      rfl

set_option maxHeartbeats 1000000 in
theorem hasCase_calls (A : Option Addr) (c : Nat) (l : List S87) (w : World) (hr : Kd.C k87 w A l.length l) (hc : l.length ≤ c) :
    Calls Try.prog 56 #[.slice A l.length c, .func (.func 57) #[] #[]] w fun e w' => e = .returned (.bool (l.any badCase)) ∧ Below w.heap.size w w' := by
  have hv : decide (0 ≤ firstOf badCase l) = l.any badCase := by
    cases h : l.findIdx? badCase with
    | none =>
      rw [List.findIdx?_eq_none_iff] at h
      have : l.any badCase = false := by rw [List.any_eq_false]; intro x hx; rw [h x hx]; decide
      rw [this]; simp [firstOf, List.findIdx?_eq_none_iff.mpr h]
    | some i =>
      have h' := h
      rw [List.findIdx?_eq_some_iff_getElem] at h'
      obtain ⟨hi, hp, _⟩ := h'
      have : l.any badCase = true := List.any_eq_true.mpr ⟨_, List.getElem_mem hi, hp⟩
      rw [this]; simp only [firstOf, h]; exact decide_eq_true (by omega)
  rw [← hv]
  go_enter Try.func56, Try.ntmps56
  go_wp2_with (first | (go_at_call 70; refine (firstCase_calls A c l _ hr hc).mono ?_; rintro e w1 ⟨rfl, hb⟩))
  go_ret
  exact ⟨by rw [hv]; rfl, hb⟩

set_option maxHeartbeats 1000000 in
set_option maxRecDepth 100000 in
theorem table_test (s : S58) (A : Option Addr) (c : Nat) (w : World) (hr : Kd.C k87 w A s.f0.length s.f0) (hc : s.f0.length ≤ c) :
    Calls Try.prog 55 #[.agg #[.slice A s.f0.length c, .bool s.f1]] w fun e w' => e = .returned (.bool (badTable s)) ∧ Below w.heap.size w w' := by
  unfold badTable
  have hm0 : (s.f0.length : Int) ≤ 9223372036854775807 := by have := hr.2.1; omega
  have HR := Aside0.mk hr
  clear hr
  by_cases h0 : 16 < (s.f0.length : Int)
  · have h1 : decide (16 < (s.f0.length : Int)) = true := decide_eq_true h0
    rw [h1]
    clear h1
    go_enter Try.func55, Try.ntmps55
    go_wp2
    go_ret
    exact ⟨by first | rfl | (simp; done) | (simp [*]; done), by repeat (first | exact Below.refl _ _ | apply below_alloc)⟩
  · have h1 : decide (16 < (s.f0.length : Int)) = false := decide_eq_false h0
    rw [h1]
    clear h1
    go_enter Try.func55, Try.ntmps55
    go_wp2_with (first | (go_at_call 56; refine (hasCase_calls A c s.f0 _ (Kd.C_alloc HR.out _) hc).mono ?_; rintro e w1 ⟨rfl, hb⟩))
    go_ret
    exact ⟨by first | rfl | (simp; done) | (simp [*]; done), below_step (below_alloc (Below.refl _ _) _) hb⟩

set_option maxHeartbeats 1000000 in
set_option maxRecDepth 100000 in
theorem firstTable_calls (A : Option Addr) (c : Nat) (l : List S58) (w : World) (hr : Kd.C k58 w A l.length l) (hc : l.length ≤ c) :
    Calls Try.prog 54 #[.slice A l.length c, .func (.func 55) #[] #[]] w fun e w' => e = .returned (.int .i64 (firstOf badTable l)) ∧ Below w.heap.size w w' := by
  have hu24 := Try.underlying24
  have hu58 := Try.underlying58
  have HR := Aside0.mk hr
  clear hr
  have hm0 : (l.length : Int) ≤ 9223372036854775807 := by have := HR.out.2.1; omega
  go_enter Try.func54, Try.ntmps54
  go_wp2
  go_loopw [8] (fun v8 wr => ∃ x : Int, v8 = .int .i64 x ∧ Aside0 (0 ≤ x ∧ x ≤ l.length) ∧ Aside0 (NoneOf badTable (rd_T58 l) x) ∧ Aside0 (Below w.heap.size w wr)) (fun v8 _ => l.length - (intOf v8).toNat)
  case atStart => exact ⟨0, rfl, ⟨by omega⟩, ⟨fun j h0 h1 => by omega⟩, ⟨Below.refl _ _⟩⟩
  case round =>
    obtain ⟨x, rfl, HX, HN, HB⟩ := hrel
    by_cases hlt : x < (l.length : Int)
    · have p0 : 0 ≤ x := HX.out.1
      obtain ⟨ad, A1, c1, e1, hx0, hx1, hl1, hi1⟩ := at_T58 HR.out x p0 hlt
      cases e1
      replace hx0 := (HB.out.cell (World.block_lt_of_cell? w _ hx0)).trans hx0
      replace hx1 := (HB.out.cell (World.block_lt_of_cell? w _ hx1)).trans hx1
      have hcall := table_test (rd_T58 l x) A1 c1 wr (Kd.C_below hi1 HB.out) hl1
      clear hi1
      rcases hp : badTable (rd_T58 l x) with _ | _
      · rw [hp] at hcall
        go_wp2_with fail
        refine hcall.mono ?_
        rintro e w1 ⟨rfl, hb⟩
        have HB1 := Aside0.mk (below_step HB.out hb)
        clear hb HB
        go_wp2
        go_roundw
        case rel => exact ⟨x + 1, rfl, ⟨by omega⟩, ⟨HN.out.succ hp⟩, HB1⟩
        case measure => simp [intOf]; omega
      · rw [hp] at hcall
        go_wp2_with fail
        refine hcall.mono ?_
        rintro e w1 ⟨rfl, hb⟩
        have HB1 := Aside0.mk (below_step HB.out hb)
        clear hb HB
        go_wp2
        go_ret
        refine ⟨?_, HB1.out⟩
        have hx : x.toNat < l.length := by omega
        have hi : ((x.toNat : Nat) : Int) = x := by omega
        rw [first_yes badTable l x.toNat hx (by rw [rd58, hi]; exact hp) (fun j hj hjx => by rw [rd58]; exact HN.out j (by omega) (by omega)), hi]
        rfl
    · go_wp2
      go_ret
      refine ⟨?_, HB.out⟩
      have hx : x = l.length := by have := HX.out; omega
      rw [first_no badTable l (fun j hj => by rw [rd58]; exact HN.out j (by omega) (by omega))]
      rfl

set_option maxHeartbeats 1000000 in
theorem proper_tables.calls (A0_0 : Option Addr) (c0_0 : Nat) (l0_0 : List Int) (A0_1 : Option Addr) (c0_1 : Nat) (l0_1 : List (S34)) (A0_2 : Option Addr) (c0_2 : Nat) (l0_2 : List (S58)) (r1 : Int) (r2 : Bool) (w : World) (hr0_0 : Kd.C (Kd.int .u32) w A0_0 l0_0.length l0_0) (hc0_0 : l0_0.length ≤ c0_0) (hr0_1 : Kd.C k34 w A0_1 l0_1.length l0_1) (hc0_1 : l0_1.length ≤ c0_1) (hr0_2 : Kd.C k58 w A0_2 l0_2.length l0_2) (hc0_2 : l0_2.length ≤ c0_2) (h : proper_tables.f l0_0 l0_1 l0_2 = some (r1, r2)) :
    Calls Try.prog 29 #[.agg #[.slice A0_0 l0_0.length c0_0, .slice A0_1 l0_1.length c0_1, .slice A0_2 l0_2.length c0_2]] w fun e w' => e = .returned (.tuple #[.int .i64 r1, .bool r2]) ∧ Below w.heap.size w w' := by
  simp only [proper_tables.f, Option.some.injEq, Prod.mk.injEq] at h
  obtain ⟨rfl, rfl⟩ := h
  have HR := Aside0.mk hr0_2
  clear hr0_0 hr0_1 hr0_2
  go_enter Try.func29, Try.ntmps29
  go_wp2_with (first | (go_at_call 54; refine (firstTable_calls A0_2 c0_2 l0_2 _ (Kd.C_alloc HR.out _) hc0_2).mono ?_; rintro e w1 ⟨rfl, hb⟩))
  go_ret2
  exact ⟨by first | rfl | (simp; done) | (simp [*]; done), below_step (below_alloc (Below.refl _ _) _) hb⟩
end Go.Proofs.Ytdlikjfffdpmiaa.QProper

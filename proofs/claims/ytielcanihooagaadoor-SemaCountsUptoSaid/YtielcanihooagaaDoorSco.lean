/- The law SemaCounts, walked. Conditions: the theorem's own. -/
import Derived.Test.YtielcanihooagaaDoorSli
import Derived.Test.YtielcanihooagaaDoorSre
set_option linter.unusedVariables false
set_option linter.unusedSimpArgs false
namespace Go.Proofs.YtielcanihooagaaDoor.PSemaExcludes
open Go.RowKit Go.Proofs.YtielcanihooagaaDoor.Ef Go.Proofs.YtielcanihooagaaDoor.Mp Go.Proofs.YtielcanihooagaaDoorW.PrintWords Go.Proofs.YtielcanihooagaaDoorW.PrintLast Go.Proofs.YtielcanihooagaaDoorW.PrintMore

abbrev bn (l : List Bool) (i : Nat) : Bool := (l[i]?).getD false
theorem at_bool {w : World} {A : Option Addr} {n : Nat} {xs : List Bool} (h : Kd.C Kd.bool w A n xs) (i : Nat) (h1 : i < n) : ∃ ad : Addr, A = some ad ∧ w.cell? (ad.add i) = some (.bool (bn xs i)) := by
  obtain ⟨ad, c, e, _, hK, hc0⟩ := Kd.C_get h false (i : Int) (by omega) (by omega)
  rw [Int.toNat_natCast] at hc0 hK
  obtain rfl : c = [.bool (bn xs i)] := hK
  have hc := hc0 0 _ rfl
  exact ⟨ad, e, by have h2 : i * Kd.bool.sz + 0 = i := (by show i * 1 + 0 = i; omega); rw [h2] at hc; exact hc⟩
def rotalaw13_SemaCounts.f (k : Nat) (turns : List Bool) : Option Bool := some true
/-- What is true ahead of each turn: got, given, the count, who waits. -/
structure Cn (i : Nat) (got given cnt : Int) (qs : List S34) : Prop where
  c0 : 0 ≤ cnt
  eq : got + cnt = given
  g0 : 0 ≤ got
  le : given ≤ i
  q : qs ≠ [] → cnt = 0
  len : qs.length ≤ i
  lt : ∀ x ∈ qs, x.f0 < (i : Int)
theorem cell_grown {w W : World} {g : Nat} (h : w.grownBy W (some g)) {a : Addr} {u : Value} (hc : w.cell? a = some u) (hne : a.block ≠ g) : W.cell? a = some u := by
  have := h.block a.block (World.block_lt_of_cell? _ _ hc) (fun e => hne (Option.some.inj e))
  unfold World.cell? at hc ⊢
  rw [this]
  exact hc
set_option maxHeartbeats 8000000 in
set_option maxRecDepth 100000 in
theorem rotalaw13_SemaCounts.calls (k : Nat) (A0 : Option Addr) (c0 : Nat) (turns : List Bool) (r : Bool) (w : World) (hr0 : Kd.C Kd.bool w A0 turns.length turns) (hc0 : turns.length ≤ c0) (u0 : turns.length ≤ 1048576) (h : rotalaw13_SemaCounts.f k turns = some r) :
    Calls Tryd.prog 3 #[.slice A0 turns.length c0] w fun e w' => e = .returned (.bool r) ∧ Below w.heap.size w w' := by
  obtain rfl := Option.some.inj h
  have hlo := u0
  have HR0 := Aside0.mk hr0
  have hu29 := Tryd.underlying29
  clear hr0 h
  go_enter Tryd.func3, Tryd.ntmps3
  go_wp2_with (first
    | (go_at_call 7; (refine (new_calls 0 255 (by decide) (by decide) _).mono ?_); rintro e w1 ⟨s, B, rfl, hS, hb⟩; have HS1 := Aside0.mk hS; have HB1 := Aside0.mk hb; clear hS hb)
    | (go_at_call 8; (refine (lives_calls _).mono ?_); rintro e w2 ⟨rfl, hb⟩; have HS2 := Aside0.mk (HS1.out.below hb); have HB2 := Aside0.mk (below_step HB1.out hb); clear hb HS1 HB1))
  go_loopw [4, 5, 6] (fun v4 v5 v6 wr => ∃ (i : Nat) (got given cnt : Int) (vs : Value) (oks : Nat → Prop) (qs : List S34), v4 = .int .i64 got ∧ v5 = .int .i64 given ∧ v6 = .int .i64 (i : Int) ∧ Aside0 (i ≤ turns.length) ∧ Aside0 (Cn i got given cnt qs) ∧ Aside0 (SY wr w.heap.size s B 0 nilV (fun _ => False) [] false 0 255 vs oks qs cnt) ∧ Aside0 (Below w.heap.size w wr)) (fun _ _ v6 _ => turns.length - (intOf v6).toNat)
  case atStart => exact ⟨0, 0, 0, 0, nilV, _, [], rfl, rfl, rfl, ⟨Nat.zero_le _⟩, ⟨⟨Int.le_refl _, rfl, Int.le_refl _, Int.le_refl _, fun h => absurd rfl h, Nat.le_refl _, fun x hx => by cases hx⟩⟩, HS2, HB2⟩
  case round =>
    obtain ⟨i, got, given, cnt, vs, oks, qs, rfl, rfl, rfl, HI, HC, HS, HB⟩ := hrel
    by_cases hlt : (i : Int) < (turns.length : Int)
    · have hin : i < turns.length := by omega
      have hin0 : (0 : Int) ≤ (i : Int) := by omega
      obtain ⟨ad, hae, hx⟩ := at_bool HR0.out i hin
      subst hae
      have HX0 := Aside0.mk (World.block_lt_of_cell? _ _ hx)
      replace hx := (HB.out.cell (World.block_lt_of_cell? w _ hx)).trans hx
      have hc0' := HC.out.c0
      have heq := HC.out.eq
      have hg0 := HC.out.g0
      have hle := HC.out.le
      have hlen := HC.out.len
      have HQ := Aside0.mk (show ∀ x ∈ qs, (x.f0 == (i : Int) && x.f1 == (0 : Int)) = false from fun x hx => by have := HC.out.lt x hx; rw [Bool.and_eq_false_iff]; exact .inl (by simp; omega))
      have hw1 : IntKind.i64.wrap (got + 1) = got + 1 := by simp [IntKind.wrap, IntKind.bits, IntKind.signed]; omega
      have hw2 : IntKind.i64.wrap (given + 1) = given + 1 := by simp [IntKind.wrap, IntKind.bits, IntKind.signed]; omega
      generalize bn turns i = tb at hx
      cases tb with
      | true =>
        by_cases hcp : 0 < cnt
        · have hd : decide (given < got + 1) = false := decide_eq_false (by omega)
          go_wp2_with (first
        | ((with_reducible refine gate_dst (N := 7) rfl ?_); refine box_event ?hg (N := 7) ?hd (cs := #[.bool false, .int .i64 0, .slice none 0 0]) (t := 29) ?hr ?_; (case hd => rfl); (case hg => rfl); (case hr => first | (go_simp; done) | (go_simp; rfl)); intro g7 hgN w2 hbox hb; have HE7 := Aside0.mk (show w.heap.size ≤ g7 from by have := HB.out.size; omega); have HN7 := Aside0.mk (show wr.heap.size ≤ g7 by omega); have HS2 := Aside0.mk (HS.out.below hb); have HB2 := Aside0.mk (below_step HB.out hb); have B7 := Aside0.mk hbox; replace hx := (hb.cell (World.block_lt_of_cell? _ _ hx)).trans hx; clear hb hbox hgN)
        | ((with_reducible refine gate_store (t := 29) (p := 7) (v := .tmp 22) rfl ?_); refine step_store rfl rfl rfl B7.out rfl (u := .agg #[.bool false, .int .i64 0, .slice none 0 0]) (seg := [.bool false, .int .i64 0, .slice none 0 0]) rfl rfl (by kernel_rfl) (by simp [Value.oneCell']) (Nat.le_refl 3) (cur' := #[.bool false, .int .i64 0, .slice none 0 0]) rfl ?_; intro w3 hbs hgs hss; have HNo := Aside0.mk (show ¬ own B s (fun _ => False) oks g7 from fun q => Nat.not_lt.2 HN7.out (HS.out.lt _ q)); have HS3 := Aside0.mk (HS2.out.grown hgs HNo.out); have HB3 := Aside0.mk (below_mput HB2.out hgs HE7.out HB2.out.size); have B73 := Aside0.mk hbs; replace hx := cell_grown hgs hx (fun e => by have := HX0.out; have := HE7.out; simp only [Addr.add] at *; omega); clear hbs hgs hss HS2 HB2 B7)
        | (go_at_call 9; (refine (acquire_has w.heap.size s B 0 nilV (fun _ => False) [] false 0 255 vs oks qs cnt (i : Int) 0 _ HS3.out (fun x hx => by cases hx) HQ.out hcp (by omega)).mono ?_); rintro e w4 ⟨v4, ok4, rfl, hS, ho, hF⟩; have HS4 := Aside0.mk hS; have HB4 := Aside0.mk (HB3.out.trans hF.b); have HN4 := Aside0.mk (show ¬ own B s (fun _ => False) ok4 g7 from fun q => by rcases q with q | q | q; exact HNo.out (.inl q); exact q; exact (ho _ q).elim (fun p => HNo.out (.inr (.inr p))) (fun p => Nat.not_lt.2 p (blk_lt B73.out))); have B74 := Aside0.mk (hF.blk B73.out HNo.out); clear hS ho hF HS3 HB3 B73 hx)
        | ((with_reducible refine gate_store (t := 29) (p := 7) (v := .tmp 32) rfl ?_); refine step_store rfl rfl rfl B74.out rfl (u := .agg #[.bool false, .int .i64 0, .slice none 0 0]) (seg := [.bool false, .int .i64 0, .slice none 0 0]) rfl rfl (by kernel_rfl) (by simp [Value.oneCell']) (Nat.le_refl 3) (cur' := #[.bool false, .int .i64 0, .slice none 0 0]) rfl ?_; intro w5 hbs hgs hss; have HS5 := Aside0.mk (HS4.out.grown hgs HN4.out); have HB5 := Aside0.mk (below_mput HB4.out hgs HE7.out HB4.out.size); have B75 := Aside0.mk hbs; clear hbs hgs hss HS4 HB4 B74; have t0 : w5.cell? ⟨g7, 0, none⟩ = some (.bool false) := (blk_cell B75.out 0).trans rfl; have t1 : w5.cell? ⟨g7, 1, none⟩ = some (.int .i64 0) := (blk_cell B75.out 1).trans rfl))
          go_roundw
          case rel => exact ⟨i + 1, got + 1, given, cnt - 1, v4, ok4, qs, rfl, rfl, by go_num, ⟨hin⟩, ⟨⟨by omega, by omega, by omega, by omega, fun h => by have := HC.out.q h; omega, by omega, fun x hx => by have := HC.out.lt x hx; omega⟩⟩, HS5, HB5⟩
          case measure => simp [intOf]; omega
        · obtain rfl : cnt = 0 := by omega
          have hd : decide (given < got) = false := decide_eq_false (by omega)
          go_wp2_with (first
        | ((with_reducible refine gate_dst (N := 7) rfl ?_); refine box_event ?hg (N := 7) ?hd (cs := #[.bool false, .int .i64 0, .slice none 0 0]) (t := 29) ?hr ?_; (case hd => rfl); (case hg => rfl); (case hr => first | (go_simp; done) | (go_simp; rfl)); intro g7 hgN w2 hbox hb; have HE7 := Aside0.mk (show w.heap.size ≤ g7 from by have := HB.out.size; omega); have HN7 := Aside0.mk (show wr.heap.size ≤ g7 by omega); have HS2 := Aside0.mk (HS.out.below hb); have HB2 := Aside0.mk (below_step HB.out hb); have B7 := Aside0.mk hbox; replace hx := (hb.cell (World.block_lt_of_cell? _ _ hx)).trans hx; clear hb hbox hgN)
        | ((with_reducible refine gate_store (t := 29) (p := 7) (v := .tmp 22) rfl ?_); refine step_store rfl rfl rfl B7.out rfl (u := .agg #[.bool false, .int .i64 0, .slice none 0 0]) (seg := [.bool false, .int .i64 0, .slice none 0 0]) rfl rfl (by kernel_rfl) (by simp [Value.oneCell']) (Nat.le_refl 3) (cur' := #[.bool false, .int .i64 0, .slice none 0 0]) rfl ?_; intro w3 hbs hgs hss; have HNo := Aside0.mk (show ¬ own B s (fun _ => False) oks g7 from fun q => Nat.not_lt.2 HN7.out (HS.out.lt _ q)); have HS3 := Aside0.mk (HS2.out.grown hgs HNo.out); have HB3 := Aside0.mk (below_mput HB2.out hgs HE7.out HB2.out.size); have B73 := Aside0.mk hbs; replace hx := cell_grown hgs hx (fun e => by have := HX0.out; have := HE7.out; simp only [Addr.add] at *; omega); clear hbs hgs hss HS2 HB2 B7)
        | (go_at_call 9; (refine (acquire_waits w.heap.size s B 0 nilV (fun _ => False) [] false 0 255 vs oks qs 0 (i : Int) 0 _ HS3.out (fun x hx => by cases hx) HQ.out rfl (by omega)).mono ?_); rintro e w4 ⟨v4, ok4, rfl, hS, ho, hF⟩; have HS4 := Aside0.mk hS; have HB4 := Aside0.mk (HB3.out.trans hF.b); have HN4 := Aside0.mk (show ¬ own B s (fun _ => False) ok4 g7 from fun q => by rcases q with q | q | q; exact HNo.out (.inl q); exact q; exact (ho _ q).elim (fun p => HNo.out (.inr (.inr p))) (fun p => Nat.not_lt.2 p (blk_lt B73.out))); have B74 := Aside0.mk (hF.blk B73.out HNo.out); clear hS ho hF HS3 HB3 B73 hx)
        | ((with_reducible refine gate_store (t := 29) (p := 7) (v := .tmp 32) rfl ?_); refine step_store rfl rfl rfl B74.out rfl (u := .agg #[.bool true, .int .i64 0, .slice none 0 0]) (seg := [.bool true, .int .i64 0, .slice none 0 0]) rfl rfl (by kernel_rfl) (by simp [Value.oneCell']) (Nat.le_refl 3) (cur' := #[.bool true, .int .i64 0, .slice none 0 0]) rfl ?_; intro w5 hbs hgs hss; have HS5 := Aside0.mk (HS4.out.grown hgs HN4.out); have HB5 := Aside0.mk (below_mput HB4.out hgs HE7.out HB4.out.size); have B75 := Aside0.mk hbs; clear hbs hgs hss HS4 HB4 B74; have t0 : w5.cell? ⟨g7, 0, none⟩ = some (.bool true) := (blk_cell B75.out 0).trans rfl; have t1 : w5.cell? ⟨g7, 1, none⟩ = some (.int .i64 0) := (blk_cell B75.out 1).trans rfl))
          go_roundw
          case rel => exact ⟨i + 1, got, given, 0, v4, ok4, qs ++ [⟨(i : Int), 0⟩], rfl, rfl, by go_num, ⟨hin⟩, ⟨⟨by omega, by omega, by omega, by omega, fun _ => rfl, by rw [List.length_append]; first | (simp; done) | (simp; omega), fun x hx => by rcases List.mem_append.1 hx with q | q; (have := HC.out.lt x q; omega); (rw [List.mem_singleton.1 q]; show (i : Int) < _; omega)⟩⟩, HS5, HB5⟩
          case measure => simp [intOf]; omega
      | false =>
        cases qs with
        | cons x r =>
          have hd : decide (given + 1 < got + 1) = false := decide_eq_false (by omega)
          go_wp2_with (first
        | ((with_reducible refine gate_dst (N := 7) rfl ?_); refine box_event ?hg (N := 7) ?hd (cs := #[.bool false, .int .i64 0, .slice none 0 0]) (t := 29) ?hr ?_; (case hd => rfl); (case hg => rfl); (case hr => first | (go_simp; done) | (go_simp; rfl)); intro g7 hgN w2 hbox hb; have HE7 := Aside0.mk (show w.heap.size ≤ g7 from by have := HB.out.size; omega); have HN7 := Aside0.mk (show wr.heap.size ≤ g7 by omega); have HS2 := Aside0.mk (HS.out.below hb); have HB2 := Aside0.mk (below_step HB.out hb); have B7 := Aside0.mk hbox; replace hx := (hb.cell (World.block_lt_of_cell? _ _ hx)).trans hx; clear hb hbox hgN)
        | ((with_reducible refine gate_store (t := 29) (p := 7) (v := .tmp 22) rfl ?_); refine step_store rfl rfl rfl B7.out rfl (u := .agg #[.bool false, .int .i64 0, .slice none 0 0]) (seg := [.bool false, .int .i64 0, .slice none 0 0]) rfl rfl (by kernel_rfl) (by simp [Value.oneCell']) (Nat.le_refl 3) (cur' := #[.bool false, .int .i64 0, .slice none 0 0]) rfl ?_; intro w3 hbs hgs hss; have HNo := Aside0.mk (show ¬ own B s (fun _ => False) oks g7 from fun q => Nat.not_lt.2 HN7.out (HS.out.lt _ q)); have HS3 := Aside0.mk (HS2.out.grown hgs HNo.out); have HB3 := Aside0.mk (below_mput HB2.out hgs HE7.out HB2.out.size); have B73 := Aside0.mk hbs; replace hx := cell_grown hgs hx (fun e => by have := HX0.out; have := HE7.out; simp only [Addr.add] at *; omega); clear hbs hgs hss HS2 HB2 B7)
        | (go_at_call 10; (refine (release_pop w.heap.size s B 0 nilV (fun _ => False) [] false 0 255 vs oks x r cnt _ HS3.out).mono ?_); rintro e w4 ⟨A4, v4, ok4, rfl, hS, ho, hF⟩; have HS4 := Aside0.mk hS; have HB4 := Aside0.mk (HB3.out.trans hF.b); have HN4 := Aside0.mk (show ¬ own B s (fun _ => False) ok4 g7 from fun q => by rcases q with q | q | q; exact HNo.out (.inl q); exact q; exact (ho _ q).elim (fun p => HNo.out (.inr (.inr p))) (fun p => Nat.not_lt.2 p (blk_lt B73.out))); have B74 := Aside0.mk (hF.blk B73.out HNo.out); clear hS ho hF HS3 HB3 B73 hx)
        | ((with_reducible refine gate_store (t := 29) (p := 7) (v := .tmp 40) rfl ?_); refine step_store rfl rfl rfl B74.out rfl (u := .agg #[.bool false, .int .i64 0, .slice A4 1 1]) (seg := [.bool false, .int .i64 0, .slice A4 1 1]) rfl rfl (by kernel_rfl) (by simp [Value.oneCell']) (Nat.le_refl 3) (cur' := #[.bool false, .int .i64 0, .slice A4 1 1]) rfl ?_; intro w5 hbs hgs hss; have HS5 := Aside0.mk (HS4.out.grown hgs HN4.out); have HB5 := Aside0.mk (below_mput HB4.out hgs HE7.out HB4.out.size); have B75 := Aside0.mk hbs; clear hbs hgs hss HS4 HB4 B74; have t2 : w5.cell? ⟨g7, 2, none⟩ = some (.slice A4 1 1) := (blk_cell B75.out 2).trans rfl; have t1 : w5.cell? ⟨g7, 1, none⟩ = some (.int .i64 0) := (blk_cell B75.out 1).trans rfl))
          go_roundw
          case rel => exact ⟨i + 1, got + 1, given + 1, cnt, v4, ok4, r, rfl, rfl, by go_num, ⟨hin⟩, ⟨⟨by omega, by omega, by omega, by omega, fun _ => HC.out.q (by simp), by rw [List.length_cons] at hlen; omega, fun y hy => by have := HC.out.lt y (List.mem_cons_of_mem _ hy); omega⟩⟩, HS5, HB5⟩
          case measure => simp [intOf]; omega
        | nil =>
          have hd : decide (given + 1 < got) = false := decide_eq_false (by omega)
          go_wp2_with (first
        | ((with_reducible refine gate_dst (N := 7) rfl ?_); refine box_event ?hg (N := 7) ?hd (cs := #[.bool false, .int .i64 0, .slice none 0 0]) (t := 29) ?hr ?_; (case hd => rfl); (case hg => rfl); (case hr => first | (go_simp; done) | (go_simp; rfl)); intro g7 hgN w2 hbox hb; have HE7 := Aside0.mk (show w.heap.size ≤ g7 from by have := HB.out.size; omega); have HN7 := Aside0.mk (show wr.heap.size ≤ g7 by omega); have HS2 := Aside0.mk (HS.out.below hb); have HB2 := Aside0.mk (below_step HB.out hb); have B7 := Aside0.mk hbox; replace hx := (hb.cell (World.block_lt_of_cell? _ _ hx)).trans hx; clear hb hbox hgN)
        | ((with_reducible refine gate_store (t := 29) (p := 7) (v := .tmp 22) rfl ?_); refine step_store rfl rfl rfl B7.out rfl (u := .agg #[.bool false, .int .i64 0, .slice none 0 0]) (seg := [.bool false, .int .i64 0, .slice none 0 0]) rfl rfl (by kernel_rfl) (by simp [Value.oneCell']) (Nat.le_refl 3) (cur' := #[.bool false, .int .i64 0, .slice none 0 0]) rfl ?_; intro w3 hbs hgs hss; have HNo := Aside0.mk (show ¬ own B s (fun _ => False) oks g7 from fun q => Nat.not_lt.2 HN7.out (HS.out.lt _ q)); have HS3 := Aside0.mk (HS2.out.grown hgs HNo.out); have HB3 := Aside0.mk (below_mput HB2.out hgs HE7.out HB2.out.size); have B73 := Aside0.mk hbs; replace hx := cell_grown hgs hx (fun e => by have := HX0.out; have := HE7.out; simp only [Addr.add] at *; omega); clear hbs hgs hss HS2 HB2 B7)
        | (go_at_call 10; (refine (release_up w.heap.size s B 0 nilV (fun _ => False) [] false 0 255 vs oks cnt _ HS3.out hc0' (by omega)).mono ?_); rintro e w4 ⟨v4, ok4, rfl, hS, ho, hF⟩; have HS4 := Aside0.mk hS; have HB4 := Aside0.mk (HB3.out.trans hF.b); have HN4 := Aside0.mk (show ¬ own B s (fun _ => False) ok4 g7 from fun q => by rcases q with q | q | q; exact HNo.out (.inl q); exact q; exact (ho _ q).elim (fun p => HNo.out (.inr (.inr p))) (fun p => Nat.not_lt.2 p (blk_lt B73.out))); have B74 := Aside0.mk (hF.blk B73.out HNo.out); clear hS ho hF HS3 HB3 B73 hx)
        | ((with_reducible refine gate_store (t := 29) (p := 7) (v := .tmp 40) rfl ?_); refine step_store rfl rfl rfl B74.out rfl (u := .agg #[.bool false, .int .i64 0, .slice none 0 0]) (seg := [.bool false, .int .i64 0, .slice none 0 0]) rfl rfl (by kernel_rfl) (by simp [Value.oneCell']) (Nat.le_refl 3) (cur' := #[.bool false, .int .i64 0, .slice none 0 0]) rfl ?_; intro w5 hbs hgs hss; have HS5 := Aside0.mk (HS4.out.grown hgs HN4.out); have HB5 := Aside0.mk (below_mput HB4.out hgs HE7.out HB4.out.size); have B75 := Aside0.mk hbs; clear hbs hgs hss HS4 HB4 B74; have t2 : w5.cell? ⟨g7, 2, none⟩ = some (.slice none 0 0) := (blk_cell B75.out 2).trans rfl; have t1 : w5.cell? ⟨g7, 1, none⟩ = some (.int .i64 0) := (blk_cell B75.out 1).trans rfl))
          go_roundw
          case rel => exact ⟨i + 1, got, given + 1, cnt + 1, v4, ok4, [], rfl, rfl, by go_num, ⟨hin⟩, ⟨⟨by omega, by omega, by omega, by omega, fun h => absurd rfl h, Nat.zero_le _, fun x hx => by cases hx⟩⟩, HS5, HB5⟩
          case measure => simp [intOf]; omega
    · go_wp2
      go_ret
      exact ⟨rfl, HB.out⟩
end Go.Proofs.YtielcanihooagaaDoor.PSemaExcludes
